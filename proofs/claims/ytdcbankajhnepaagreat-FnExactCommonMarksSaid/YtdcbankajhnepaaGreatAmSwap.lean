/- Of what an operation's value hangs. No condition. -/
import Derived.Test.YtdcbankajhnepaaGreatAmRegion
set_option linter.unusedVariables false
set_option linter.unusedSimpArgs false
namespace Go.AM
theorem mapM_congr' {α β:Type} {f g:α → Option β}:∀ {l:List α},(∀ x ∈ l,f x = g x) → l.mapM f = l.mapM g
 | [],_=>rfl
 | x :: l,h=>by
  rw [List.mapM_cons,List.mapM_cons,h x (by simp),mapM_congr' (fun y hy=>h y (by simp [hy]))]
section
variable {E:Env} {cb:CB} {ρ ρ':Operand → SV} {os:Objs} {o:Oper}
theorem bnd_congr {d:Int} {x:Option Operand} (h:∀ y ∈ x,ρ y = ρ' y):bnd ρ d x = bnd ρ' d x:=by
 cases x with
 | none=>rfl
 | some y=>simp only [bnd,h y rfl]
theorem sliceOp_congr {isS:Bool} {okT:Ty → Bool} {x:SV} {lo hi:Option Operand} (h1:∀ y ∈ lo,ρ y = ρ' y) (h2:∀ y ∈ hi,ρ y = ρ' y):sliceOp isS okT ρ os x lo hi = sliceOp isS okT ρ' os x lo hi:=by
 unfold sliceOp
 simp only [bnd_congr h1,bnd_congr h2]
theorem sliceOpV_congr {vw isS:Bool} {okT:Ty → Bool} {x:SV} {lo hi:Option Operand} (h1:∀ y ∈ lo,ρ y = ρ' y) (h2:∀ y ∈ hi,ρ y = ρ' y):sliceOpV vw isS okT ρ os x lo hi = sliceOpV vw isS okT ρ' os x lo hi:=by
 unfold sliceOpV sliceView
 rw [sliceOp_congr h1 h2,bnd_congr h1]
 simp only [bnd_congr h2]
theorem call_ops {c:Call}:(∀ x ∈ c.args.toList,x ∈ c.operands.toList) ∧ ∀ f,c.callee = .value f → f ∈ c.operands.toList:=by
 constructor
 ·intro x hx
  have:x ∈ c.args:=by simpa using hx
  simp [Call.operands,this]
 ·intro f hf
  simp [Call.operands,hf]
theorem stepV_congr (h:∀ x ∈ o.op.operands.toList,ρ x = ρ' x):stepV E cb ρ os o = stepV E cb ρ' os o:=by
 unfold stepV
 cases ho:o.op <;> rw [ho] at h <;> simp only [Op.operands] at h <;> try simp only
 case move x=>rw [h x (by simp)]
 case assign x=>rw [h x (by simp)]
 case pick c a b=>rw [h c (by simp),h a (by simp),h b (by simp)]
 case binOp op t x y u=>rw [h x (by simp),h y (by simp)]
 case unOp op t x=>rw [h x (by simp)]
 case load t x=>rw [h x (by simp)]
 case fieldAddr t x f=>rw [h x (by simp)]
 case indexAddr t x i=>rw [h x (by simp),h i (by simp)]
 case index t x i=>rw [h x (by simp),h i (by simp)]
 case field t x f=>rw [h x (by simp)]
 case extract x i=>rw [h x (by simp)]
 case build t parts=>
  have:∀ (fs:List FI) (acc:Option (List Leaf)),parts.toList.foldl (fillStep fs ρ) acc = parts.toList.foldl (fillStep fs ρ') acc:=by
   intro fs
   have key:∀ (l:List (Nat × Operand)) (acc:Option (List Leaf)),(∀ p ∈ l,ρ p.2 = ρ' p.2) → l.foldl (fillStep fs ρ) acc = l.foldl (fillStep fs ρ') acc:=by
    intro l
    induction l with
    | nil=>intro _ _; rfl
    | cons p l ih=>
     intro acc hl
     rw [List.foldl_cons,List.foldl_cons]
     have:fillStep fs ρ acc p = fillStep fs ρ' acc p:=by unfold fillStep; rw [hl p (by simp)]
     rw [this]
     exact ih _ fun q hq=>hl q (by simp [hq])
   intro acc
   exact key _ acc fun p hp=>h p.2 (by simp only [List.toList_toArray,List.mem_map]; exact ⟨p,hp,rfl⟩)
  simp only [this]
 case buildSlice t n parts=>
  have:(parts.toList.map fun p=>(p.1,ρ p.2)) = parts.toList.map fun p=>(p.1,ρ' p.2):=by
   refine List.map_congr_left fun p hp=>?_
   rw [h p.2 (by simp only [List.toList_toArray,List.mem_map]; exact ⟨p,hp,rfl⟩)]
  have e2:(parts.toList.all fun p=>(ρ p.2).free) = parts.toList.all fun p=>(ρ' p.2).free:=by
   rw [Bool.eq_iff_iff]
   simp only [List.all_eq_true]
   exact ⟨fun hh p hp=>by rw [← h p.2 (by simp only [List.toList_toArray,List.mem_map]; exact ⟨p,hp,rfl⟩)]; exact hh p hp,fun hh p hp=>by rw [h p.2 (by simp only [List.toList_toArray,List.mem_map]; exact ⟨p,hp,rfl⟩)]; exact hh p hp⟩
  rw [this,e2]
 case makeSlice t n c=>rw [h n (by simp),h c (by simp)]
 case box t x=>rw [h x (by simp)]
 case makeFunc fn first caps=>
  have:caps.toList.mapM (fun x=>ptrOf (ρ x).leaf) = caps.toList.mapM (fun x=>ptrOf (ρ' x).leaf):=by
   refine mapM_congr' fun x hx=>?_
   have hx':x ∈ caps:=by simpa using hx
   rw [h x (by simp [hx'])]
  cases fn <;> simp only [this]
 case nilCheck x=>rw [h x (by simp)]
 case slice t x lo hi mx=>
  cases mx with
  | some _=>rfl
  | none=>
   simp only
   rw [h x (by simp),sliceOpV_congr (fun y hy=>h y ?_) (fun y hy=>h y ?_)]
   ·simp only [Option.mem_def] at hy; simp [hy]
   ·simp only [Option.mem_def] at hy; simp [hy]
 case convert src dst x=>rw [h x (by simp)]
 case call c=>
  obtain ⟨k1,k2⟩:=call_ops (c:=c)
  have ha:c.args.toList.map ρ = c.args.toList.map ρ':=List.map_congr_left fun x hx=>h x (k1 x hx)
  have hl:(c.args.toList.map fun x=>(ρ x).leaf) = c.args.toList.map fun x=>(ρ' x).leaf:=List.map_congr_left fun x hx=>by rw [h x (k1 x hx)]
  cases hc:c.callee with
  | builtin b=>
   cases b <;> simp only
   case len=>
    match hargs:c.args.toList,c.argTypes.toList with
    | [x],[T]=>simp only; rw [h x (k1 x (by rw [hargs]; simp))]
    | [],_=>rfl
    | [x],[]=>rfl
    | [x],_ :: _ :: _=>rfl
    | _ :: _ :: _,_=>rfl
   case max=>rw [hl]
   case min=>rw [hl]
  | value f=>simp only; rw [h f (k2 f hc),ha]
  | invoke r m=>rfl
theorem clsV_congr (h:∀ x ∈ o.op.operands.toList,ρ x = ρ' x):clsV E ρ o os = clsV E ρ' o os:=by
 unfold clsV
 cases os with
 | cons _ _=>rfl
 | nil=>
  simp only
  cases ho:o.op <;> rw [ho] at h <;> simp only [Op.operands] at h <;> try simp only
  case load t x=>rw [h x (by simp)]
  case indexAddr t x i=>rw [h x (by simp)]
  case slice t x lo hi mx=>rw [h x (by simp)]
  case convert src dst x=>rw [h x (by simp)]
  case call c=>
   obtain ⟨k1,k2⟩:=call_ops (c:=c)
   have ha:c.args.toList.all (fun x=>(ρ x).leaf.free) = c.args.toList.all (fun x=>(ρ' x).leaf.free):=by
    rw [Bool.eq_iff_iff]
    simp only [List.all_eq_true]
    exact ⟨fun hh x hx=>by rw [← h x (k1 x hx)]; exact hh x hx,fun hh x hx=>by rw [h x (k1 x hx)]; exact hh x hx⟩
   cases hc:c.callee with
   | builtin b=>cases b <;> simp only [ha]
   | value f=>
    have hb:c.args.toList.all (fun x=>(ρ x).free) = c.args.toList.all (fun x=>(ρ' x).free):=by
     rw [Bool.eq_iff_iff]
     simp only [List.all_eq_true]
     exact ⟨fun hh x hx=>by rw [← h x (k1 x hx)]; exact hh x hx,fun hh x hx=>by rw [h x (k1 x hx)]; exact hh x hx⟩
    simp only; rw [h f (k2 f hc),hb]
   | invoke r m=>rfl
theorem flatMap_congr' {α β:Type} {f g:α → List β}:∀ {l:List α},(∀ x ∈ l,f x = g x) → l.flatMap f = l.flatMap g
 | [],_=>rfl
 | x :: l,h=>by
  simp only [List.flatMap_cons,h x (by simp)]
  rw [flatMap_congr' fun y hy=>h y (by simp [hy])]
theorem lookOf_congr (h:∀ x ∈ o.op.operands.toList,ρ x = ρ' x):lookOf ρ o = lookOf ρ' o:=by
 unfold lookOf
 cases ho:o.op <;> simp only
 case load t x=>
  rw [ho] at h
  rw [h x (by simp [Op.operands])]
 case indexAddr t x i=>
  rw [ho] at h
  rw [h x (by simp [Op.operands])]
theorem mkV_congr {v:SV} {n:Nat} (h:∀ x ∈ o.op.operands.toList,ρ x = ρ' x):mkV ρ o v n = mkV ρ' o v n:=by
 have e1:o.op.operands.toList.all (fun x=>(ρ x).firm) = o.op.operands.toList.all (fun x=>(ρ' x).firm):=by
  rw [Bool.eq_iff_iff]
  simp only [List.all_eq_true]
  exact ⟨fun hh x hx=>by rw [← h x hx]; exact hh x hx,fun hh x hx=>by rw [h x hx]; exact hh x hx⟩
 have e2:onAll ρ o v = onAll ρ' o v:=by
  unfold onAll
  congr 1
  exact flatMap_congr' fun x hx=>by rw [h x hx]
 unfold mkV
 rw [e1,e2]
 split
 ·match n with
  | 0=>rfl
  | 1=>simp only [lookOf_congr h]
  | n + 2=>rfl
 ·rfl
theorem handsClo_congr (h:∀ x ∈ o.op.operands.toList,ρ x = ρ' x):handsClo E ρ o = handsClo E ρ' o:=by
 unfold handsClo
 cases ho:o.op <;> rw [ho] at h <;> simp only [Op.operands] at h <;> try simp only
 case call c=>
  obtain ⟨k1,k2⟩:=call_ops (c:=c)
  cases hc:c.callee with
  | builtin b=>rfl
  | value f=>simp only; rw [h f (k2 f hc)]
  | invoke r m=>rfl
theorem obj_ext {os ext:Objs} {l:Nat} {x:AObj} (h:obj os l = x) (hd:x ≠ .dead):obj (os ++ ext) l = x:=by
 rw [obj_app (obj_lt (by rw [h]; exact hd)),h]
theorem sliceTy_ext {os ext:Objs} {c:Leaf} {t:Ty} (h:sliceTy os c = some t):sliceTy (os ++ ext) c = some t:=by
 cases c with
 | val s x L=>cases s <;> first | exact h | cases h
 | own l=>
  simp only [sliceTy] at h ⊢
  cases ho:obj os l with
  | row e s xs d L=>rw [obj_ext ho (by simp)]; rw [ho] at h; exact h
  | dead=>rw [ho] at h; cases h
  | box cs=>rw [ho] at h; cases h
 | sub l i off=>
  simp only [sliceTy] at h ⊢
  cases ho:obj os l with
  | row e s xs d L=>rw [obj_ext ho (by simp)]; rw [ho] at h; exact h
  | dead=>rw [ho] at h; cases h
  | box cs=>rw [ho] at h; cases h
 | view l i off=>
  simp only [sliceTy] at h ⊢
  cases ho:obj os l with
  | row e s xs d L=>rw [obj_ext ho (by simp)]; rw [ho] at h; exact h
  | dead=>rw [ho] at h; cases h
  | box cs=>rw [ho] at h; cases h
 | _=>cases h
theorem sliceData_ext {os ext:Objs} {c:Leaf} {t:Ty} {p:List t.den × List Nat} (h:sliceData os t c = some p):sliceData (os ++ ext) t c = some p:=by
 cases c with
 | nilS=>exact h
 | val s x L=>cases s <;> first | exact h | cases h
 | own l=>
  simp only [sliceData] at h ⊢
  cases ho:obj os l with
  | row e s xs d L=>rw [obj_ext ho (by simp)]; rw [ho] at h; exact h
  | dead=>rw [ho] at h; cases h
  | box cs=>rw [ho] at h; cases h
 | sub l i off=>
  simp only [sliceData] at h ⊢
  cases ho:obj os l with
  | row e s xs d L=>rw [obj_ext ho (by simp)]; rw [ho] at h; exact h
  | dead=>rw [ho] at h; cases h
  | box cs=>rw [ho] at h; cases h
 | view l i off=>
  simp only [sliceData] at h ⊢
  cases ho:obj os l with
  | row e s xs d L=>rw [obj_ext ho (by simp)]; rw [ho] at h; exact h
  | dead=>rw [ho] at h; cases h
  | box cs=>rw [ho] at h; cases h
 | _=>cases h
theorem loadOp_ext {os ext:Objs} {ti:TI} {c:Leaf} {v:SV} (h:loadOp os ti c = some v):loadOp (os ++ ext) ti c = some v:=by
 cases c with
 | ptr l off=>
  simp only [loadOp] at h ⊢
  cases ho:obj os l with
  | box cs=>rw [obj_ext ho (by simp)]; rw [ho] at h; exact h
  | dead=>rw [ho] at h; cases h
  | row e s xs d L=>rw [ho] at h; cases h
 | ela t xs i off L=>exact h
 | oela l i off=>
  simp only [loadOp] at h ⊢
  cases ho:obj os l with
  | row e s xs d L=>rw [obj_ext ho (by simp)]; rw [ho] at h; cases d <;> exact h
  | dead=>rw [ho] at h; cases h
  | box cs=>rw [ho] at h; cases h
 | oel2 l i off j o2=>
  simp only [loadOp] at h ⊢
  split at h
  ·rename_i u hu
   rw [sliceTy_ext hu]
   split at h
   ·rename_i ys L hd
    simp only [sliceData_ext hd]
    exact h
   ·cases h
  ·cases h
 | _=>cases h
theorem getImm_ext {os ext:Objs}:∀ (t:Ty) {ls:List Leaf} {p:t.den × List Nat × List Leaf},getImm os t ls = some p → getImm (os ++ ext) t ls = some p
 | .pair a b,ls,p,h=>by
  simp only [getImm] at h ⊢
  split at h
  ·rename_i x L r ha
   rw [getImm_ext a ha]
   simp only
   split at h
   ·rename_i y M q hb
    rw [getImm_ext b hb]
    exact h
   ·cases h
  ·cases h
 | .unit,ls,p,h=>h
 | .slice e t,ls,p,h=>by
  cases ls with
  | nil=>cases h
  | cons c r=>
   simp only [getImm] at h ⊢
   split at h
   ·rename_i x L hs
    rw [sliceData_ext hs]
    exact h
   ·cases h
 | .int k,ls,p,h=>by
  cases ls with
  | nil=>cases h
  | cons c r=>cases c <;> first | exact h | cases h
 | .bool,ls,p,h=>by
  cases ls with
  | nil=>cases h
  | cons c r=>cases c <;> first | exact h | cases h
 | .str,ls,p,h=>by
  cases ls with
  | nil=>cases h
  | cons c r=>cases c <;> first | exact h | cases h
theorem gatherIns_ext {os ext:Objs}:∀ (ps:List PIn) {vs:List SV} {p:insDen ps × List Nat × List Nat},ps.any PIn.isMut = false → ps.any PIn.isClo = false → gatherIns cb os ps vs = some p → gatherIns cb (os ++ ext) ps vs = some p
 | [],vs,p,_,_,h=>by cases vs <;> first | exact h | cases h
 | .imm b t :: ps,vs,p,hm,hc,h=>by
  cases vs with
  | nil=>cases h
  | cons v vs=>
   simp only [gatherIns] at h ⊢
   split at h
   ·rename_i b' ls hl
    split at h
    ·rename_i hb
     rw [if_pos hb]
     split at h
     ·rename_i x L hg
      split at h
      ·rename_i y M W hr
       rw [getImm_ext t hg,gatherIns_ext ps (by simpa [PIn.isMut] using hm) (by simpa [PIn.isClo] using hc) hr]
       exact h
      ·cases h
     ·cases h
    ·cases h
   ·cases h
 | .mut b t :: ps,vs,p,hm,hc,h=>by simp [PIn.isMut] at hm
 | .ptr t :: ps,vs,p,hm,hc,h=>by simp [PIn.isMut] at hm
 | .clo gs r :: ps,vs,p,hm,hc,h=>by simp [PIn.isClo] at hc
theorem getArgs_ext {os ext:Objs}:∀ (gs:List (Bool × Ty)) {vs:List SV} {p:gsDen gs},getArgs os gs vs = some p → getArgs (os ++ ext) gs vs = some p
 | [],vs,p,h=>by cases vs <;> first | exact h | cases h
 | (b,t) :: gs,vs,p,h=>by
  cases vs with
  | nil=>cases h
  | cons v vs=>
   simp only [getArgs] at h ⊢
   split at h
   ·rename_i b' ls hl
    split at h
    ·rename_i hb
     rw [if_pos hb]
     split at h
     ·rename_i x L hg
      split at h
      ·rename_i y hr
       rw [getImm_ext t hg,getArgs_ext gs hr]
       exact h
      ·cases h
     ·cases h
    ·cases h
   ·cases h
theorem deepLeaves_none:∀ (t:Ty) {x:t.den} {n:Nat},(deepLeaves t x n).2 = [] → ∀ m,deepLeaves t x m = deepLeaves t x n
 | .int _,_,_,_,_=>rfl
 | .bool,_,_,_,_=>rfl
 | .str,_,_,_,_=>rfl
 | .unit,_,_,_,_=>rfl
 | .slice _ _,_,_,h,_=>by cases h
 | .pair a b,x,n,h,m=>by
  simp only [deepLeaves,List.append_eq_nil_iff] at h ⊢
  have h1:=deepLeaves_none a h.1
  rw [h1 m]
  have h2:(deepLeaves b x.2 (n + (deepLeaves a x.1 n).2.length)).2 = []:=h.2
  rw [deepLeaves_none b h2 (m + (deepLeaves a x.1 n).2.length)]
theorem outLeaves_none {L:List Nat}:∀ (ps:List POut) {y:outsDen ps} {n:Nat},(outLeaves L ps y n).2 = [] → ∀ m,outLeaves L ps y m = outLeaves L ps y n
 | [],_,_,_,_=>rfl
 | .imm b t :: ps,y,n,h,m=>by
  simp only [outLeaves] at h ⊢
  rw [outLeaves_none ps h m]
 | .deep b t :: ps,y,n,h,m=>by
  simp only [outLeaves,List.append_eq_nil_iff] at h ⊢
  rw [deepLeaves_none t h.1 m,outLeaves_none ps h.2 (m + (deepLeaves t y.1 n).2.length)]
theorem sliceOp_ext {ext:Objs} {isS:Bool} {okT:Ty → Bool} {x:SV} {lo hi:Option Operand} {v:SV} (h:(sliceOp isS okT ρ os x lo hi).run some = some v):(sliceOp isS okT ρ (os ++ ext) x lo hi).run some = some v:=by
 unfold sliceOp at h ⊢
 split at h
 ·exact h
 ·rename_i c hne
  split at h
  ·cases h
  ·rename_i t ht
   simp only [sliceTy_ext ht]
   split at h
   ·rename_i hok
    simp only [hok,if_true]
    split at h
    ·cases h
    ·rename_i xs L hd
     simp only [sliceData_ext hd]
     exact h
   ·cases h
 ·cases h
theorem sliceOpV_ext {ext:Objs} {vw isS:Bool} {okT:Ty → Bool} {x:SV} {lo hi:Option Operand} {v:SV} (h:(sliceOpV vw isS okT ρ os x lo hi).run some = some v):(sliceOpV vw isS okT ρ (os ++ ext) x lo hi).run some = some v:=by
 unfold sliceOpV at h ⊢
 split at h
 ·unfold sliceView at h ⊢
  split at h
  ·rename_i ho
   rw [obj_ext ho (by simp)]
   exact h
  ·cases h
 ·exact sliceOp_ext h
theorem lenOp_ext {ext:Objs} {isS isL:Bool} {x:SV} {n:Int} (h:lenOp isS isL os x = some n):lenOp isS isL (os ++ ext) x = some n:=by
 unfold lenOp at h ⊢
 split at h
 ·exact h
 ·exact h
 ·rename_i c _ _
  split at h
  ·cases h
  ·rename_i hL
   simp only [hL]
   split at h
   ·rename_i t ht
    simp only [sliceTy_ext ht]
    split at h
    ·rename_i xs M hd
     simp only [sliceData_ext hd]
     exact h
    ·cases h
   ·cases h
 ·cases h
theorem sliceTy_free {c:Leaf} (h:c.free = true) (os os':Objs):sliceTy os c = sliceTy os' c:=by
 cases c <;> first | rfl | (cases h; done) | (rename_i s x L; cases s <;> rfl)
theorem sliceData_free {c:Leaf} {t:Ty} (h:c.free = true) (os os':Objs):sliceData os t c = sliceData os' t c:=by
 cases c <;> first | rfl | (cases h; done) | (rename_i s x L; cases s <;> rfl)
theorem loadOp_free {c:Leaf} {ti:TI} (h:c.free = true) (os os':Objs):loadOp os ti c = loadOp os' ti c:=by
 cases c <;> first | rfl | cases h
theorem leaf_free {v:SV} {c:Leaf} (h:v = .one c):v.leaf = c:=by rw [h]; rfl
theorem getImm_free {os os':Objs}:∀ (t:Ty) {ls:List Leaf},ls.all Leaf.free = true → getImm os t ls = getImm os' t ls ∧ ∀ p,getImm os' t ls = some p → p.2.2.all Leaf.free = true
 | .pair a b,ls,h=>by
  obtain ⟨h1,h2⟩:=getImm_free (os:=os) (os':=os') a h
  simp only [getImm,h1]
  cases hg:getImm os' a ls with
  | none=>exact ⟨rfl,fun p hp=>by cases hp⟩
  | some p1=>
   obtain ⟨x,L,r⟩:=p1
   obtain ⟨k1,k2⟩:=getImm_free (os:=os) (os':=os') b (h2 _ hg)
   simp only [k1]
   refine ⟨trivial,fun p hp=>?_⟩
   cases hg2:getImm os' b r with
   | none=>rw [hg2] at hp; cases hp
   | some p2=>
    obtain ⟨y,M,q⟩:=p2
    rw [hg2] at hp
    simp only [Option.some.injEq] at hp
    subst hp
    exact k2 _ hg2
 | .unit,ls,h=>by
  simp only [getImm]
  refine ⟨trivial,fun p hp=>?_⟩
  simp only [Option.some.injEq] at hp
  subst hp
  exact h
 | .slice e t,[],h=>⟨rfl,fun p hp=>by cases hp⟩
 | .slice e t,c :: r,h=>by
  simp only [List.all_cons,Bool.and_eq_true] at h
  simp only [getImm,sliceData_free h.1 os os']
  refine ⟨trivial,fun p hp=>?_⟩
  split at hp
  ·simp only [Option.some.injEq] at hp; subst hp; exact h.2
  ·cases hp
 | .int k,ls,h=>by
  refine ⟨by cases ls with | nil=>rfl | cons c r=>cases c <;> rfl,fun p hp=>?_⟩
  cases ls with
  | nil=>cases hp
  | cons c r=>
   simp only [List.all_cons,Bool.and_eq_true] at h
   cases c <;> simp only [getImm] at hp <;> try (cases hp; done)
   split at hp
   ·simp only [Option.some.injEq] at hp; subst hp; exact h.2
   ·cases hp
 | .bool,ls,h=>by
  refine ⟨by cases ls with | nil=>rfl | cons c r=>cases c <;> rfl,fun p hp=>?_⟩
  cases ls with
  | nil=>cases hp
  | cons c r=>
   simp only [List.all_cons,Bool.and_eq_true] at h
   cases c <;> simp only [getImm] at hp <;> try (cases hp; done)
   split at hp
   ·simp only [Option.some.injEq] at hp; subst hp; exact h.2
   ·cases hp
 | .str,ls,h=>by
  refine ⟨by cases ls with | nil=>rfl | cons c r=>cases c <;> rfl,fun p hp=>?_⟩
  cases ls with
  | nil=>cases hp
  | cons c r=>
   simp only [List.all_cons,Bool.and_eq_true] at h
   cases c <;> simp only [getImm] at hp <;> try (cases hp; done)
   split at hp
   ·simp only [Option.some.injEq] at hp; subst hp; exact h.2
   ·cases hp
theorem sv_free {v:SV} {b:Bool} {ls:List Leaf} (h:v.leaves = some (b,ls)) (hf:v.free = true):ls.all Leaf.free = true:=by
 cases v with
 | one c=>simp only [SV.leaves,Option.some.injEq,Prod.mk.injEq] at h; obtain ⟨_,rfl⟩:=h; simpa [SV.free] using hf
 | agg cs=>simp only [SV.leaves,Option.some.injEq,Prod.mk.injEq] at h; obtain ⟨_,rfl⟩:=h; exact hf
 | tup _=>cases h
theorem getDeep_free {os:Objs}:∀ (t:Ty) {ls:List Leaf} {p:t.den × List Nat × List Leaf},ls.all Leaf.free = true → getDeep os t ls = some p → p.2.1 = [] ∧ p.2.2.all Leaf.free = true
 | .pair a b,ls,p,hf,h=>by
  simp only [getDeep] at h
  split at h
  case h_2=>cases h
  rename_i x L r ha
  obtain ⟨e1,e2⟩:=getDeep_free a hf ha
  split at h
  case h_2=>cases h
  rename_i y M q hb
  obtain ⟨e3,e4⟩:=getDeep_free b e2 hb
  simp only [Option.some.injEq] at h
  subst h
  simp only at e1 e3 e4
  exact ⟨by simp [e1,e3],e4⟩
 | .unit,ls,p,hf,h=>by
  simp only [getDeep,Option.some.injEq] at h
  subst h
  exact ⟨rfl,hf⟩
 | .slice e t,ls,p,hf,h=>by
  cases ls with
  | nil=>cases h
  | cons c r=>
   simp only [List.all_cons,Bool.and_eq_true] at hf
   cases c <;> first | (cases h; done) | (cases hf.1; done) | skip
   simp only [getDeep,Option.some.injEq] at h
   subst h
   exact ⟨rfl,hf.2⟩
 | .int k,ls,p,hf,h=>by
  cases ls with
  | nil=>cases h
  | cons c r=>
   simp only [List.all_cons,Bool.and_eq_true] at hf
   cases c <;> first | (cases h; done) | skip
   simp only [getDeep] at h
   split at h
   case h_2=>cases h
   simp only [Option.some.injEq] at h
   subst h
   exact ⟨rfl,hf.2⟩
 | .bool,ls,p,hf,h=>by
  cases ls with
  | nil=>cases h
  | cons c r=>
   simp only [List.all_cons,Bool.and_eq_true] at hf
   cases c <;> first | (cases h; done) | skip
   simp only [getDeep] at h
   split at h
   case h_2=>cases h
   simp only [Option.some.injEq] at h
   subst h
   exact ⟨rfl,hf.2⟩
 | .str,ls,p,hf,h=>by
  cases ls with
  | nil=>cases h
  | cons c r=>
   simp only [List.all_cons,Bool.and_eq_true] at hf
   cases c <;> first | (cases h; done) | skip
   simp only [getDeep] at h
   split at h
   case h_2=>cases h
   simp only [Option.some.injEq] at h
   subst h
   exact ⟨rfl,hf.2⟩
theorem partsOf_freeD {t:Ty} {os:Objs}:∀ (ps:List (Nat × SV)) (i:Nat) {xs:List t.den} {M:List Nat},(∀ p ∈ ps,p.2.free = true) → partsOf t os true ps i = some (xs,M) → M = []
 | [],i,xs,M,_,h=>by simp only [partsOf,Option.some.injEq,Prod.mk.injEq] at h; exact h.2.symm
 | (j,v) :: r,i,xs,M,hf,h=>by
  simp only [partsOf] at h
  split at h
  case isFalse=>cases h
  split at h
  ·cases h
  rename_i b ls hl
  simp only [if_true] at h
  split at h
  case h_2=>cases h
  rename_i x M1 hg
  have e1:=(getDeep_free t (sv_free hl (hf (j,v) (by simp))) hg).1
  split at h
  case h_2=>cases h
  rename_i xs1 L1 hr
  have e2:=partsOf_freeD r (i + 1) (fun p hp=>hf p (by simp [hp])) hr
  simp only [Option.some.injEq,Prod.mk.injEq] at h
  simp only at e1
  rw [← h.2,e1,e2]; rfl
theorem build_free {ρ:Operand → SV} {os:Objs} {o:Oper} {t:TypeId} {n:Nat} {parts:Array (Nat × Operand)} {v:SV} (ho:o.op = .buildSlice t n parts) (h:(stepV E cb ρ os o).run some = some (v,[])):∀ p ∈ parts.toList,(ρ p.2).free = true:=by
 simp only [stepV,ho] at h
 split at h
 ·split at h
  ·split at h
   ·split at h
    ·rename_i hw
     simp only [Bool.and_eq_true,List.all_eq_true] at hw
     exact fun p hp=>hw.2 p hp
    ·exfalso
     split at h
     ·simp [mkRow,Tree.run] at h
     ·split at h
      ·simp [mkRow,Tree.run] at h
      ·cases h
   ·cases h
  ·cases h
 ·cases h
theorem partsOf_free {t:Ty} {os os':Objs}:∀ (ps:List (Nat × SV)) (i:Nat),(∀ p ∈ ps,p.2.free = true) → partsOf t os false ps i = partsOf t os' false ps i
 | [],i,_=>rfl
 | (j,v) :: r,i,h=>by
  simp only [partsOf,partsOf_free (os:=os) (os':=os') r (i + 1) fun p hp=>h p (by simp [hp])]
  cases hl:v.leaves with
  | none=>rfl
  | some q=>
   obtain ⟨b,ls⟩:=q
   simp only [Bool.false_eq_true,if_false,(getImm_free (os:=os) (os':=os') t (sv_free hl (h (j,v) (by simp)))).1]
theorem gatherIns_free {os os':Objs}:∀ (ps:List PIn) {vs:List SV},ps.any PIn.isMut = false → ps.any PIn.isClo = false → vs.all SV.free = true → gatherIns cb os ps vs = gatherIns cb os' ps vs
 | [],[],_,_,_=>rfl
 | [],_ :: _,_,_,_=>rfl
 | .imm b t :: ps,[],_,_,_=>rfl
 | .imm b t :: ps,v :: vs,hm,hc,hf=>by
  simp only [List.all_cons,Bool.and_eq_true] at hf
  have ih:=gatherIns_free (os:=os) (os':=os') ps (List.any_eq_false.2 fun p hp=>List.any_eq_false.1 hm p (by simp [hp])) (List.any_eq_false.2 fun p hp=>List.any_eq_false.1 hc p (by simp [hp])) hf.2
  simp only [gatherIns,ih]
  cases hl:v.leaves with
  | none=>rfl
  | some p=>
   obtain ⟨b',ls⟩:=p
   simp only [(getImm_free (os:=os) (os':=os') t (sv_free hl hf.1)).1]
 | .mut b t :: ps,vs,hm,_,_=>by simp [PIn.isMut] at hm
 | .ptr t :: ps,vs,hm,_,_=>by simp [PIn.isMut] at hm
 | .clo gs r :: ps,vs,_,hc,_=>by simp [PIn.isClo] at hc
end
end Go.AM
