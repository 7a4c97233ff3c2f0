/- Of what an operation's value zgr. No condition. -/
import Derived.Test.YtdcbankajhnepaaGreatAmRegion
set_option linter.unusedVariables false
set_option linter.unusedSimpArgs false
namespace Go.AM
theorem zl8 {α β:Type} {f g:α→Option β}:∀ {l:List α},(∀ x∈l,f x=g x)→l.mapM f=l.mapM g
 | [],_=>rfl
 | x::l,h=>by
  rw[List.mapM_cons,List.mapM_cons,h x (by simp),zl8 (fun y hy=>h y (by simp[hy]))]
section
variable {E:Env} {cb:CB} {ρ ρ':Operand→SV} {os:Objs} {o:Oper}
theorem zi2 {d:Int} {x:Option Operand} (h:∀ y∈x,ρ y=ρ' y):bnd ρ d x=bnd ρ' d x:=by
 cases x with
 | none=>rfl
 | some y=>simp only[bnd,h y rfl]
theorem zo6 {isS:Bool} {okT:Ty→Bool} {x:SV} {lo hi:Option Operand} (h1:∀ y∈lo,ρ y=ρ' y) (h2:∀ y∈hi,ρ y=ρ' y):zb1 isS okT ρ os x lo hi=zb1 isS okT ρ' os x lo hi:=by
 unfold zb1
 simp only[zi2 h1,zi2 h2]
theorem zml {vw isS:Bool} {okT:Ty→Bool} {x:SV} {lo hi:Option Operand} (h1:∀ y∈lo,ρ y=ρ' y) (h2:∀ y∈hi,ρ y=ρ' y):z5d vw isS okT ρ os x lo hi=z5d vw isS okT ρ' os x lo hi:=by
 unfold z5d ze6
 rw[zo6 h1 h2,zi2 h1]
 simp only[zi2 h2]
theorem z6j {c:Call}:(∀ x∈c.args.toList,x∈c.operands.toList)∧∀ f,c.callee=.value f→f∈c.operands.toList:=by
 constructor
 ·intro x hx
  have:x∈c.args:=by simpa using hx
  simp[Call.operands,this]
 ·intro f hf
  simp[Call.operands,hf]
theorem z71 (h:∀ x∈o.op.operands.toList,ρ x=ρ' x):z0l E cb ρ os o=z0l E cb ρ' os o:=by
 unfold z0l
 cases ho:o.op<;>rw[ho] at h<;>simp only[Op.operands] at h<;>try simp only
 case move x=>rw[h x (by simp)]
 case assign x=>rw[h x (by simp)]
 case pick c a b=>rw[h c (by simp),h a (by simp),h b (by simp)]
 case binOp op t x y u=>rw[h x (by simp),h y (by simp)]
 case unOp op t x=>rw[h x (by simp)]
 case load t x=>rw[h x (by simp)]
 case fieldAddr t x f=>rw[h x (by simp)]
 case indexAddr t x i=>rw[h x (by simp),h i (by simp)]
 case index t x i=>rw[h x (by simp),h i (by simp)]
 case field t x f=>rw[h x (by simp)]
 case extract x i=>rw[h x (by simp)]
 case build t parts=>
  have:∀ (fs:List FI) (acc:Option (List Leaf)),parts.toList.foldl (zaj fs ρ) acc=parts.toList.foldl (zaj fs ρ') acc:=by
   intro fs
   have key:∀ (l:List (Nat×Operand)) (acc:Option (List Leaf)),(∀ p∈l,ρ p.2=ρ' p.2)→l.foldl (zaj fs ρ) acc=l.foldl (zaj fs ρ') acc:=by
    intro l
    induction l with
    | nil=>intro _ _; rfl
    | cons p l ih=>
     intro acc hl
     rw[List.foldl_cons,List.foldl_cons]
     have:zaj fs ρ acc p=zaj fs ρ' acc p:=by unfold zaj; rw[hl p (by simp)]
     rw[this]
     exact ih _ fun q hq=>hl q (by simp[hq])
   intro acc
   exact key _ acc fun p hp=>h p.2 (by simp only[List.toList_toArray,List.mem_map]; exact⟨p,hp,rfl⟩)
  simp only[this]
 case buildSlice t n parts=>
  have:(parts.toList.map fun p=>(p.1,ρ p.2))=parts.toList.map fun p=>(p.1,ρ' p.2):=by
   refine List.map_congr_left fun p hp=>?_
   rw[h p.2 (by simp only[List.toList_toArray,List.mem_map]; exact⟨p,hp,rfl⟩)]
  have e2:(parts.toList.all fun p=>(ρ p.2).free)=parts.toList.all fun p=>(ρ' p.2).free:=by
   rw[Bool.eq_iff_iff]
   simp only[List.all_eq_true]
   exact⟨fun hh p hp=>by rw[←h p.2 (by simp only[List.toList_toArray,List.mem_map]; exact⟨p,hp,rfl⟩)]; exact hh p hp,fun hh p hp=>by rw[h p.2 (by simp only[List.toList_toArray,List.mem_map]; exact⟨p,hp,rfl⟩)]; exact hh p hp⟩
  rw[this,e2]
 case makeSlice t n c=>rw[h n (by simp),h c (by simp)]
 case box t x=>rw[h x (by simp)]
 case makeFunc fn first caps=>
  have:caps.toList.mapM (fun x=>y1t (ρ x).leaf)=caps.toList.mapM (fun x=>y1t (ρ' x).leaf):=by
   refine zl8 fun x hx=>?_
   have hx':x∈caps:=by simpa using hx
   rw[h x (by simp[hx'])]
  cases fn<;>simp only[this]
 case nilCheck x=>rw[h x (by simp)]
 case slice t x lo hi mx=>
  cases mx with
  | some _=>rfl
  | none=>
   simp only
   rw[h x (by simp),zml (fun y hy=>h y ?_) (fun y hy=>h y ?_)]
   ·simp only[Option.mem_def] at hy; simp[hy]
   ·simp only[Option.mem_def] at hy; simp[hy]
 case convert src dst x=>rw[h x (by simp)]
 case call c=>
  obtain⟨k1,k2⟩:=z6j (c:=c)
  have ha:c.args.toList.map ρ=c.args.toList.map ρ':=List.map_congr_left fun x hx=>h x (k1 x hx)
  have hl:(c.args.toList.map fun x=>(ρ x).leaf)=c.args.toList.map fun x=>(ρ' x).leaf:=List.map_congr_left fun x hx=>by rw[h x (k1 x hx)]
  cases hc:c.callee with
  | builtin b=>
   cases b<;>simp only
   case len=>
    match hargs:c.args.toList,c.argTypes.toList with
    | [x],[T]=>simp only; rw[h x (k1 x (by rw[hargs]; simp))]
    | [],_=>rfl
    | [x],[]=>rfl
    | [x],_::_::_=>rfl
    | _::_::_,_=>rfl
   case max=>rw[hl]
   case min=>rw[hl]
  | value f=>simp only; rw[h f (k2 f hc),ha]
  | invoke r m=>rfl
theorem zfq (h:∀ x∈o.op.operands.toList,ρ x=ρ' x):clsV E ρ o os=clsV E ρ' o os:=by
 unfold clsV
 cases os with
 | cons _ _=>rfl
 | nil=>
  simp only
  cases ho:o.op<;>rw[ho] at h<;>simp only[Op.operands] at h<;>try simp only
  case load t x=>rw[h x (by simp)]
  case indexAddr t x i=>rw[h x (by simp)]
  case slice t x lo hi mx=>rw[h x (by simp)]
  case convert src dst x=>rw[h x (by simp)]
  case call c=>
   obtain⟨k1,k2⟩:=z6j (c:=c)
   have ha:c.args.toList.all (fun x=>(ρ x).leaf.free)=c.args.toList.all (fun x=>(ρ' x).leaf.free):=by
    rw[Bool.eq_iff_iff]
    simp only[List.all_eq_true]
    exact⟨fun hh x hx=>by rw[←h x (k1 x hx)]; exact hh x hx,fun hh x hx=>by rw[h x (k1 x hx)]; exact hh x hx⟩
   cases hc:c.callee with
   | builtin b=>cases b<;>simp only[ha]
   | value f=>
    have hb:c.args.toList.all (fun x=>(ρ x).free)=c.args.toList.all (fun x=>(ρ' x).free):=by
     rw[Bool.eq_iff_iff]
     simp only[List.all_eq_true]
     exact⟨fun hh x hx=>by rw[←h x (k1 x hx)]; exact hh x hx,fun hh x hx=>by rw[h x (k1 x hx)]; exact hh x hx⟩
    simp only; rw[h f (k2 f hc),hb]
   | invoke r m=>rfl
theorem zg7 {α β:Type} {f g:α→List β}:∀ {l:List α},(∀ x∈l,f x=g x)→l.flatMap f=l.flatMap g
 | [],_=>rfl
 | x::l,h=>by
  simp only[List.flatMap_cons,h x (by simp)]
  rw[zg7 fun y hy=>h y (by simp[hy])]
theorem zex (h:∀ x∈o.op.operands.toList,ρ x=ρ' x):z3m ρ o=z3m ρ' o:=by
 unfold z3m
 cases ho:o.op<;>simp only
 case load t x=>
  rw[ho] at h
  rw[h x (by simp[Op.operands])]
 case indexAddr t x i=>
  rw[ho] at h
  rw[h x (by simp[Op.operands])]
theorem zc3 {v:SV} {n:Nat} (h:∀ x∈o.op.operands.toList,ρ x=ρ' x):mkV ρ o v n=mkV ρ' o v n:=by
 have e1:o.op.operands.toList.all (fun x=>(ρ x).firm)=o.op.operands.toList.all (fun x=>(ρ' x).firm):=by
  rw[Bool.eq_iff_iff]
  simp only[List.all_eq_true]
  exact⟨fun hh x hx=>by rw[←h x hx]; exact hh x hx,fun hh x hx=>by rw[h x hx]; exact hh x hx⟩
 have e2:zeq ρ o v=zeq ρ' o v:=by
  unfold zeq
  congr 1
  exact zg7 fun x hx=>by rw[h x hx]
 unfold mkV
 rw[e1,e2]
 split
 ·match n with
  | 0=>rfl
  | 1=>simp only[zex h]
  | n+2=>rfl
 ·rfl
theorem z7j (h:∀ x∈o.op.operands.toList,ρ x=ρ' x):z1t E ρ o=z1t E ρ' o:=by
 unfold z1t
 cases ho:o.op<;>rw[ho] at h<;>simp only[Op.operands] at h<;>try simp only
 case call c=>
  obtain⟨k1,k2⟩:=z6j (c:=c)
  cases hc:c.callee with
  | builtin b=>rfl
  | value f=>simp only; rw[h f (k2 f hc)]
  | invoke r m=>rfl
theorem z8t {os ext:Objs} {l:Nat} {x:AObj} (h:obj os l=x) (hd:x≠.dead):obj (os++ext) l=x:=by
 rw[z29 (z0o (by rw[h]; exact hd)),h]
theorem z9k {os ext:Objs} {c:Leaf} {t:Ty} (h:z3d os c=some t):z3d (os++ext) c=some t:=by
 cases c with
 | val s x L=>cases s<;>first | exact h | cases h
 | own l=>
  simp only[z3d] at h ⊢
  cases ho:obj os l with
  | row e s xs d L=>rw[z8t ho (by simp)]; rw[ho] at h; exact h
  | dead=>rw[ho] at h; cases h
  | hol _ _ _=>rw[ho] at h; cases h
  | box cs=>rw[ho] at h; cases h
 | sub l i off=>
  simp only[z3d] at h ⊢
  cases ho:obj os l with
  | row e s xs d L=>rw[z8t ho (by simp)]; rw[ho] at h; exact h
  | dead=>rw[ho] at h; cases h
  | hol _ _ _=>rw[ho] at h; cases h
  | box cs=>rw[ho] at h; cases h
 | view l i off=>
  simp only[z3d] at h ⊢
  cases ho:obj os l with
  | row e s xs d L=>rw[z8t ho (by simp)]; rw[ho] at h; exact h
  | dead=>rw[ho] at h; cases h
  | hol _ _ _=>rw[ho] at h; cases h
  | box cs=>rw[ho] at h; cases h
 | _=>cases h
theorem z4n {os ext:Objs} {c:Leaf} {t:Ty} {p:List t.den×List Nat} (h:z08 os t c=some p):z08 (os++ext) t c=some p:=by
 cases c with
 | nilS=>exact h
 | val s x L=>cases s<;>first | exact h | cases h
 | own l=>
  simp only[z08] at h ⊢
  cases ho:obj os l with
  | row e s xs d L=>rw[z8t ho (by simp)]; rw[ho] at h; exact h
  | dead=>rw[ho] at h; cases h
  | hol _ _ _=>rw[ho] at h; cases h
  | box cs=>rw[ho] at h; cases h
 | sub l i off=>
  simp only[z08] at h ⊢
  cases ho:obj os l with
  | row e s xs d L=>rw[z8t ho (by simp)]; rw[ho] at h; exact h
  | dead=>rw[ho] at h; cases h
  | hol _ _ _=>rw[ho] at h; cases h
  | box cs=>rw[ho] at h; cases h
 | view l i off=>
  simp only[z08] at h ⊢
  cases ho:obj os l with
  | row e s xs d L=>rw[z8t ho (by simp)]; rw[ho] at h; exact h
  | dead=>rw[ho] at h; cases h
  | hol _ _ _=>rw[ho] at h; cases h
  | box cs=>rw[ho] at h; cases h
 | _=>cases h
theorem zv3 {os ext:Objs} {ti:TI} {c:Leaf} {v:SV} (h:z1k os ti c=some v):z1k (os++ext) ti c=some v:=by
 cases c with
 | ptr l off=>
  simp only[z1k] at h ⊢
  cases ho:obj os l with
  | box cs=>rw[z8t ho (by simp)]; rw[ho] at h; exact h
  | dead=>rw[ho] at h; cases h
  | hol _ _ _=>rw[ho] at h; cases h
  | row e s xs d L=>rw[ho] at h; cases h
 | ela t xs i off L=>exact h
 | oela l i off=>
  simp only[z1k] at h ⊢
  cases ho:obj os l with
  | row e s xs d L=>rw[z8t ho (by simp)]; rw[ho] at h; cases d<;>exact h
  | dead=>rw[ho] at h; cases h
  | hol _ _ _=>rw[ho] at h; cases h
  | box cs=>rw[ho] at h; cases h
 | oel2 l i off j o2=>
  simp only[z1k] at h ⊢
  split at h
  ·rename_i u hu
   rw[z9k hu]
   split at h
   ·rename_i ys L hd
    simp only[z4n hd]
    exact h
   ·cases h
  ·cases h
 | hol l k=>
  cases k with
  | hd=>simp[z1k] at h
  | el i=>simp[z1k] at h
  | pl i=>
   simp only[z1k] at h ⊢
   cases ho:obj os l with
   | hol e t ys=>rw[z8t ho (by simp)]; rw[ho] at h; exact h
   | dead=>rw[ho] at h; cases h
   | row e s xs d L=>rw[ho] at h; cases h
   | box cs=>rw[ho] at h; cases h
 | _=>cases h
theorem zfn {os ext:Objs}:∀ (t:Ty) {ls:List Leaf} {p:t.den×List Nat×List Leaf},z14 os t ls=some p→z14 (os++ext) t ls=some p
 | .pair a b,ls,p,h=>by
  simp only[z14] at h ⊢
  split at h
  ·rename_i x L r ha
   rw[zfn a ha]
   simp only
   split at h
   ·rename_i y M q hb
    rw[zfn b hb]
    exact h
   ·cases h
  ·cases h
 | .unit,ls,p,h=>h
 | .slice e t,ls,p,h=>by
  cases ls with
  | nil=>cases h
  | cons c r=>
   simp only[z14] at h ⊢
   split at h
   ·rename_i x L hs
    rw[z4n hs]
    exact h
   ·cases h
 | .int k,ls,p,h=>by
  cases ls with
  | nil=>cases h
  | cons c r=>cases c<;>first | exact h | cases h
 | .bool,ls,p,h=>by
  cases ls with
  | nil=>cases h
  | cons c r=>cases c<;>first | exact h | cases h
 | .str,ls,p,h=>by
  cases ls with
  | nil=>cases h
  | cons c r=>cases c<;>first | exact h | cases h
theorem zhy {os ext:Objs}:∀ (ps:List PIn) {vs:List SV} {p:z6e ps×List Nat×List Nat},ps.any PIn.isMut=false→ps.any PIn.isClo=false→z05 cb os ps vs=some p→z05 cb (os++ext) ps vs=some p
 | [],vs,p,_,_,h=>by cases vs<;>first | exact h | cases h
 | .imm b t::ps,vs,p,hm,hc,h=>by
  cases vs with
  | nil=>cases h
  | cons v vs=>
   simp only[z05] at h ⊢
   split at h
   ·rename_i b' ls hl
    split at h
    ·rename_i hb
     rw[if_pos hb]
     split at h
     ·rename_i x L hg
      split at h
      ·rename_i y M W hr
       rw[zfn t hg,zhy ps (by simpa[PIn.isMut] using hm) (by simpa[PIn.isClo] using hc) hr]
       exact h
      ·cases h
     ·cases h
    ·cases h
   ·cases h
 | .mut b t::ps,vs,p,hm,hc,h=>by simp[PIn.isMut] at hm
 | .ptr t::ps,vs,p,hm,hc,h=>by simp[PIn.isMut] at hm
 | .clo gs r::ps,vs,p,hm,hc,h=>by simp[PIn.isClo] at hc
theorem zlu {os ext:Objs}:∀ (gs:List (Bool×Ty)) {vs:List SV} {p:zca gs},zd9 os gs vs=some p→zd9 (os++ext) gs vs=some p
 | [],vs,p,h=>by cases vs<;>first | exact h | cases h
 | (b,t)::gs,vs,p,h=>by
  cases vs with
  | nil=>cases h
  | cons v vs=>
   simp only[zd9] at h ⊢
   split at h
   ·rename_i b' ls hl
    split at h
    ·rename_i hb
     rw[if_pos hb]
     split at h
     ·rename_i x L hg
      split at h
      ·rename_i y hr
       rw[zfn t hg,zlu gs hr]
       exact h
      ·cases h
     ·cases h
    ·cases h
   ·cases h
theorem za8:∀ (t:Ty) {x:t.den} {n:Nat},(z02 t x n).2=[]→∀ m,z02 t x m=z02 t x n
 | .int _,_,_,_,_=>rfl
 | .bool,_,_,_,_=>rfl
 | .str,_,_,_,_=>rfl
 | .unit,_,_,_,_=>rfl
 | .slice _ _,_,_,h,_=>by cases h
 | .pair a b,x,n,h,m=>by
  simp only[z02,List.append_eq_nil_iff] at h ⊢
  have h1:=za8 a h.1
  rw[h1 m]
  have h2:(z02 b x.2 (n+(z02 a x.1 n).2.length)).2=[]:=h.2
  rw[za8 b h2 (m+(z02 a x.1 n).2.length)]
theorem z7h {L:List Nat}:∀ (ps:List POut) {y:z4z ps} {n:Nat},(z0e L ps y n).2=[]→∀ m,z0e L ps y m=z0e L ps y n
 | [],_,_,_,_=>rfl
 | .imm b t::ps,y,n,h,m=>by
  simp only[z0e] at h ⊢
  rw[z7h ps h m]
 | .deep b t::ps,y,n,h,m=>by
  simp only[z0e,List.append_eq_nil_iff] at h ⊢
  rw[za8 t h.1 m,z7h ps h.2 (m+(z02 t y.1 n).2.length)]
theorem zsb {ext:Objs} {isS:Bool} {okT:Ty→Bool} {x:SV} {lo hi:Option Operand} {v:SV} (h:(zb1 isS okT ρ os x lo hi).run some=some v):(zb1 isS okT ρ (os++ext) x lo hi).run some=some v:=by
 unfold zb1 at h ⊢
 split at h
 ·exact h
 ·rename_i c hne
  split at h
  ·cases h
  ·rename_i t ht
   simp only[z9k ht]
   split at h
   ·rename_i hok
    simp only[hok,if_true]
    split at h
    ·cases h
    ·rename_i xs L hd
     simp only[z4n hd]
     exact h
   ·cases h
 ·cases h
theorem zq3 {ext:Objs} {vw isS:Bool} {okT:Ty→Bool} {x:SV} {lo hi:Option Operand} {v:SV} (h:(z5d vw isS okT ρ os x lo hi).run some=some v):(z5d vw isS okT ρ (os++ext) x lo hi).run some=some v:=by
 unfold z5d at h ⊢
 split at h
 ·unfold ze6 at h ⊢
  split at h
  ·rename_i ho
   rw[z8t ho (by simp)]
   exact h
  ·cases h
 ·exact zsb h
theorem zxd {ext:Objs} {isS isL:Bool} {x:SV} {n:Int} (h:zqs isS isL os x=some n):zqs isS isL (os++ext) x=some n:=by
 unfold zqs at h ⊢
 split at h
 ·exact h
 ·exact h
 ·rename_i c _ _
  split at h
  ·cases h
  ·rename_i hL
   simp only[hL]
   split at h
   ·rename_i t ht
    simp only[z9k ht]
    split at h
    ·rename_i xs M hd
     simp only[z4n hd]
     exact h
    ·cases h
   ·cases h
 ·cases h
theorem zj5 {c:Leaf} (h:c.free=true) (os os':Objs):z3d os c=z3d os' c:=by
 cases c<;>first | rfl | (cases h; done) | (rename_i s x L; cases s<;>rfl)
theorem zb2 {c:Leaf} {t:Ty} (h:c.free=true) (os os':Objs):z08 os t c=z08 os' t c:=by
 cases c<;>first | rfl | (cases h; done) | (rename_i s x L; cases s<;>rfl)
theorem zsu {c:Leaf} {ti:TI} (h:c.free=true) (os os':Objs):z1k os ti c=z1k os' ti c:=by
 cases c<;>first | rfl | cases h
theorem zd8 {os os':Objs}:∀ (t:Ty) {ls:List Leaf},ls.all Leaf.free=true→z14 os t ls=z14 os' t ls∧∀ p,z14 os' t ls=some p→p.2.2.all Leaf.free=true
 | .pair a b,ls,h=>by
  obtain⟨h1,h2⟩:=zd8 (os:=os) (os':=os') a h
  simp only[z14,h1]
  cases hg:z14 os' a ls with
  | none=>exact⟨rfl,fun p hp=>by cases hp⟩
  | some p1=>
   obtain⟨x,L,r⟩:=p1
   obtain⟨k1,k2⟩:=zd8 (os:=os) (os':=os') b (h2 _ hg)
   simp only[k1]
   refine⟨trivial,fun p hp=>?_⟩
   cases hg2:z14 os' b r with
   | none=>rw[hg2] at hp; cases hp
   | some p2=>
    obtain⟨y,M,q⟩:=p2
    rw[hg2] at hp
    simp only[Option.some.injEq] at hp
    subst hp
    exact k2 _ hg2
 | .unit,ls,h=>by
  simp only[z14]
  refine⟨trivial,fun p hp=>?_⟩
  simp only[Option.some.injEq] at hp
  subst hp
  exact h
 | .slice e t,[],h=>⟨rfl,fun p hp=>by cases hp⟩
 | .slice e t,c::r,h=>by
  simp only[List.all_cons,Bool.and_eq_true] at h
  simp only[z14,zb2 h.1 os os']
  refine⟨trivial,fun p hp=>?_⟩
  split at hp
  ·simp only[Option.some.injEq] at hp; subst hp; exact h.2
  ·cases hp
 | .int k,ls,h=>by
  refine⟨by cases ls with | nil=>rfl | cons c r=>cases c<;>rfl,fun p hp=>?_⟩
  cases ls with
  | nil=>cases hp
  | cons c r=>
   simp only[List.all_cons,Bool.and_eq_true] at h
   cases c<;>simp only[z14] at hp<;>try (cases hp; done)
   split at hp
   ·simp only[Option.some.injEq] at hp; subst hp; exact h.2
   ·cases hp
 | .bool,ls,h=>by
  refine⟨by cases ls with | nil=>rfl | cons c r=>cases c<;>rfl,fun p hp=>?_⟩
  cases ls with
  | nil=>cases hp
  | cons c r=>
   simp only[List.all_cons,Bool.and_eq_true] at h
   cases c<;>simp only[z14] at hp<;>try (cases hp; done)
   split at hp
   ·simp only[Option.some.injEq] at hp; subst hp; exact h.2
   ·cases hp
 | .str,ls,h=>by
  refine⟨by cases ls with | nil=>rfl | cons c r=>cases c<;>rfl,fun p hp=>?_⟩
  cases ls with
  | nil=>cases hp
  | cons c r=>
   simp only[List.all_cons,Bool.and_eq_true] at h
   cases c<;>simp only[z14] at hp<;>try (cases hp; done)
   split at hp
   ·simp only[Option.some.injEq] at hp; subst hp; exact h.2
   ·cases hp
theorem zs2 {v:SV} {b:Bool} {ls:List Leaf} (h:v.leaves=some (b,ls)) (hf:v.free=true):ls.all Leaf.free=true:=by
 cases v with
 | one c=>simp only[SV.leaves,Option.some.injEq,Prod.mk.injEq] at h; obtain⟨_,rfl⟩:=h; simpa[SV.free] using hf
 | agg cs=>simp only[SV.leaves,Option.some.injEq,Prod.mk.injEq] at h; obtain⟨_,rfl⟩:=h; exact hf
 | tup _=>cases h
theorem zf8 {os:Objs}:∀ (t:Ty) {ls:List Leaf} {p:t.den×List Nat×List Leaf},ls.all Leaf.free=true→z1p os t ls=some p→p.2.1=[]∧p.2.2.all Leaf.free=true
 | .pair a b,ls,p,hf,h=>by
  simp only[z1p] at h
  split at h
  case h_2=>cases h
  rename_i x L r ha
  obtain⟨e1,e2⟩:=zf8 a hf ha
  split at h
  case h_2=>cases h
  rename_i y M q hb
  obtain⟨e3,e4⟩:=zf8 b e2 hb
  simp only[Option.some.injEq] at h
  subst h
  simp only at e1 e3 e4
  exact⟨by simp[e1,e3],e4⟩
 | .unit,ls,p,hf,h=>by
  simp only[z1p,Option.some.injEq] at h
  subst h
  exact⟨rfl,hf⟩
 | .slice e t,ls,p,hf,h=>by
  cases ls with
  | nil=>cases h
  | cons c r=>
   simp only[List.all_cons,Bool.and_eq_true] at hf
   cases c<;>first | (cases h; done) | (cases hf.1; done) | skip
   simp only[z1p,Option.some.injEq] at h
   subst h
   exact⟨rfl,hf.2⟩
 | .int k,ls,p,hf,h=>by
  cases ls with
  | nil=>cases h
  | cons c r=>
   simp only[List.all_cons,Bool.and_eq_true] at hf
   cases c<;>first | (cases h; done) | skip
   simp only[z1p] at h
   split at h
   case h_2=>cases h
   simp only[Option.some.injEq] at h
   subst h
   exact⟨rfl,hf.2⟩
 | .bool,ls,p,hf,h=>by
  cases ls with
  | nil=>cases h
  | cons c r=>
   simp only[List.all_cons,Bool.and_eq_true] at hf
   cases c<;>first | (cases h; done) | skip
   simp only[z1p] at h
   split at h
   case h_2=>cases h
   simp only[Option.some.injEq] at h
   subst h
   exact⟨rfl,hf.2⟩
 | .str,ls,p,hf,h=>by
  cases ls with
  | nil=>cases h
  | cons c r=>
   simp only[List.all_cons,Bool.and_eq_true] at hf
   cases c<;>first | (cases h; done) | skip
   simp only[z1p] at h
   split at h
   case h_2=>cases h
   simp only[Option.some.injEq] at h
   subst h
   exact⟨rfl,hf.2⟩
theorem zha {t:Ty} {os:Objs}:∀ (ps:List (Nat×SV)) (i:Nat) {xs:List t.den} {M:List Nat},(∀ p∈ps,p.2.free=true)→z2x t os true ps i=some (xs,M)→M=[]
 | [],i,xs,M,_,h=>by simp only[z2x,Option.some.injEq,Prod.mk.injEq] at h; exact h.2.symm
 | (j,v)::r,i,xs,M,hf,h=>by
  simp only[z2x] at h
  split at h
  case isFalse=>cases h
  split at h
  ·cases h
  rename_i b ls hl
  simp only[if_true] at h
  split at h
  case h_2=>cases h
  rename_i x M1 hg
  have e1:=(zf8 t (zs2 hl (hf (j,v) (by simp))) hg).1
  split at h
  case h_2=>cases h
  rename_i xs1 L1 hr
  have e2:=zha r (i+1) (fun p hp=>hf p (by simp[hp])) hr
  simp only[Option.some.injEq,Prod.mk.injEq] at h
  simp only at e1
  rw[←h.2,e1,e2]; rfl
theorem ziz {ρ:Operand→SV} {os:Objs} {o:Oper} {t:TypeId} {n:Nat} {parts:Array (Nat×Operand)} {v:SV} (ho:o.op=.buildSlice t n parts) (h:(z0l E cb ρ os o).run some=some (v,[])):∀ p∈parts.toList,(ρ p.2).free=true:=by
 simp only[z0l,ho] at h
 split at h
 ·split at h
  ·split at h
   ·split at h
    ·rename_i hw
     simp only[Bool.and_eq_true,List.all_eq_true] at hw
     exact fun p hp=>hw.2 p hp
    ·exfalso
     split at h
     ·simp[zfu,Tree.run] at h
     ·split at h
      ·simp[zfu,Tree.run] at h
      ·cases h
   ·cases h
  ·cases h
 ·cases h
theorem zj6 {t:Ty} {os os':Objs}:∀ (ps:List (Nat×SV)) (i:Nat),(∀ p∈ps,p.2.free=true)→z2x t os false ps i=z2x t os' false ps i
 | [],i,_=>rfl
 | (j,v)::r,i,h=>by
  simp only[z2x,zj6 (os:=os) (os':=os') r (i+1) fun p hp=>h p (by simp[hp])]
  cases hl:v.leaves with
  | none=>rfl
  | some q=>
   obtain⟨b,ls⟩:=q
   simp only[Bool.false_eq_true,if_false,(zd8 (os:=os) (os':=os') t (zs2 hl (h (j,v) (by simp)))).1]
theorem zg6 {os os':Objs}:∀ (ps:List PIn) {vs:List SV},ps.any PIn.isMut=false→ps.any PIn.isClo=false→vs.all SV.free=true→z05 cb os ps vs=z05 cb os' ps vs
 | [],[],_,_,_=>rfl
 | [],_::_,_,_,_=>rfl
 | .imm b t::ps,[],_,_,_=>rfl
 | .imm b t::ps,v::vs,hm,hc,hf=>by
  simp only[List.all_cons,Bool.and_eq_true] at hf
  have ih:=zg6 (os:=os) (os':=os') ps (List.any_eq_false.2 fun p hp=>List.any_eq_false.1 hm p (by simp[hp])) (List.any_eq_false.2 fun p hp=>List.any_eq_false.1 hc p (by simp[hp])) hf.2
  simp only[z05,ih]
  cases hl:v.leaves with
  | none=>rfl
  | some p=>
   obtain⟨b',ls⟩:=p
   simp only[(zd8 (os:=os) (os':=os') t (zs2 hl hf.1)).1]
 | .mut b t::ps,vs,hm,_,_=>by simp[PIn.isMut] at hm
 | .ptr t::ps,vs,hm,_,_=>by simp[PIn.isMut] at hm
 | .clo gs r::ps,vs,_,hc,_=>by simp[PIn.isClo] at hc
end
end Go.AM
