/- The abstract machine: data types, abstract states, and 'exec', which interprets the translated code on abstract states. No condition. -/
import Derived.Calls
import Derived.Laws.Entries
import Derived.KernelRfl
import Derived.Sort.Defs
import Derived.Lib.BitFns
set_option linter.unusedVariables false
namespace Go.AM
inductive Ty where
 | int (k:IntKind) | bool | str | slice (e:TypeId) (t:Ty) | pair (a b:Ty) | unit
 deriving DecidableEq
@[reducible] def Ty.den:Ty→Type
 | .int _=>Int
 | .bool=>Bool
 | .str=>ByteArray
 | .slice _ t=>List t.den
 | .pair a b=>a.den×b.den
 | .unit=>Unit
def Ty.zero:(t:Ty)→t.den
 | .int _=>(0:Int)
 | .bool=>false
 | .str=>(⟨#[]⟩:ByteArray)
 | .slice _ _=>[]
 | .pair a b=>(a.zero,b.zero)
 | .unit=>()
def Ty.size:Ty→Nat
 | .pair a b=>a.size+b.size
 | .unit=>0
 | _=>1
def Ty.flat:Ty→Bool
 | .slice _ _=>false
 | .pair a b=>a.flat&&b.flat
 | _=>true
def Ty.cast (a b:Ty) (x:a.den):Option b.den:=if h:a=b then some (h▸x) else none
def zfc (a b:Ty) (x:List a.den):Option (List b.den):=if h:a=b then some (h▸x) else none
def zvi (a b:Ty) (x:List (Option a.den)):Option (List (Option b.den)):=if h:a=b then some (h▸x) else none
@[reducible] def zca:List (Bool×Ty)→Type
 | []=>Unit
 | g::r=>g.2.den×zca r
inductive HK where
 | hd | pl (i:Int) | el (i:Int)
inductive Leaf where
 | undef
 | skip
 | nilS
 | val (t:Ty) (x:t.den) (L:List Nat)
 | own (l:Nat)
 | sub (l:Nat) (i:Int) (off:Nat)
 | ptr (l off:Nat)
 | ela (t:Ty) (xs:List t.den) (i:Int) (off:Nat) (L:List Nat)
 | oela (l:Nat) (i:Int) (off:Nat)
 | oel2 (l:Nat) (i:Int) (off:Nat) (j:Int) (o2:Nat)
 | view (l:Nat) (lo hi:Int)
 | hol (l:Nat) (k:HK)
 | fn (f:FuncId) (caps:List (Nat×Nat))
 | clo (gs:List (Bool×Ty)) (r:Ty) (p:zca gs→Option r.den)
def Leaf.known:Leaf→Bool
 | .undef | .skip=>false
 | _=>true
inductive SV where
 | one (c:Leaf)
 | agg (cs:List Leaf)
 | tup (vs:List (Bool×List Leaf))
inductive AObj where
 | dead
 | box (cs:List Leaf)
 | row (e:TypeId) (t:Ty) (xs:List t.den) (deep:Bool) (L:List Nat)
 | hol (e:TypeId) (t:Ty) (ys:List (Option t.den))
structure St where
 regs:List SV
 objs:List AObj
 ro:Nat
 fx:Nat
 frm:List Leaf
structure FI where
 off:Nat
 size:Nat
 type:TypeId
inductive TD where
 | data | slice (e:TypeId) | struct (fs:List FI)
structure TI where
 td:TD
 ty:Ty
 agg:Bool
 bytes:Nat
def z4i {α:Type}:List (Nat×α)→Nat→Option α
 | [],_=>none
 | (k,x)::r,n=>if k==n then some x else z4i r n
inductive Tree (α:Type):Type 1 where
 | ret (a:α)
 | fail
 | ite (b:Bool) (t e:Tree α)
 | bind {β:Type} (m:Option β) (k:β→Tree α)
def Tree.run {α ρ:Type}:Tree α→(α→Option ρ)→Option ρ
 | .ret a,K=>K a
 | .fail,_=>none
 | .ite b t e,K=>if b then t.run K else e.run K
 | .bind m k,K=>m.bind fun x=>(k x).run K
def Tree.map {α γ:Type} (f:α→γ):Tree α→Tree γ
 | .ret a=>.ret (f a)
 | .fail=>.fail
 | .ite b t e=>.ite b (t.map f) (e.map f)
 | .bind m k=>.bind m fun x=>(k x).map f
def Tree.andThen {α β:Type}:Tree α→(α→Tree β)→Tree β
 | .ret a,K=>K a
 | .fail,_=>.fail
 | .ite b t e,K=>.ite b (t.andThen K) (e.andThen K)
 | .bind m k,K=>.bind m fun x=>(k x).andThen K
def Tree.ofOpt {α:Type}:Option α→Tree α
 | some a=>.ret a
 | none=>.fail
def Tree.need {α:Type} (b:Bool) (t:Tree α):Tree α:=.ite b t .fail
def z2k:(t:Ty)→t.den→List Nat→List Leaf
 | .pair a b,x,L=>z2k a x.1 L++z2k b x.2 L
 | .unit,_,_=>[]
 | .int k,x,_=>[.val (.int k) x []]
 | .bool,x,_=>[.val .bool x []]
 | .str,x,_=>[.val .str x []]
 | .slice e t,x,L=>[.val (.slice e t) x L]
def z1n:Ty→List Leaf
 | .pair a b=>z1n a++z1n b
 | .unit=>[]
 | .int k=>[.val (.int k) (0:Int) []]
 | .bool=>[.val .bool false []]
 | .str=>[.val .str (⟨#[]⟩:ByteArray) []]
 | .slice _ _=>[.nilS]
def zjz:(t:Ty)→t.den→Nat→Int→Nat→List Leaf
 | .pair a b,x,l,i,off=>zjz a x.1 l i off++zjz b x.2 l i (off+a.size)
 | .unit,_,_,_,_=>[]
 | .int k,x,_,_,_=>[.val (.int k) x []]
 | .bool,x,_,_,_=>[.val .bool x []]
 | .str,x,_,_,_=>[.val .str x []]
 | .slice _ _,_,l,i,off=>[.sub l i off]
def z18:(t:Ty)→t.den→Nat→Option ((s:Ty)×s.den)
 | .pair a b,x,off=>if off<a.size then z18 a x.1 off else z18 b x.2 (off - a.size)
 | .unit,_,_=>none
 | .int k,x,off=>if off==0 then some ⟨.int k,x⟩ else none
 | .bool,x,off=>if off==0 then some ⟨.bool,x⟩ else none
 | .str,x,off=>if off==0 then some ⟨.str,x⟩ else none
 | .slice e t,x,off=>if off==0 then some ⟨.slice e t,x⟩ else none
def z2m:(t:Ty)→t.den→Nat→(s:Ty)→s.den→Option t.den
 | .pair a b,x,off,s,y=>
  if off<a.size then match z2m a x.1 off s y with | some z=>some (z,x.2) | none=>none
  else match z2m b x.2 (off - a.size) s y with | some z=>some (x.1,z) | none=>none
 | .unit,_,_,_,_=>none
 | .int k,_,off,s,y=>if off==0 then Ty.cast s (.int k) y else none
 | .bool,_,off,s,y=>if off==0 then Ty.cast s .bool y else none
 | .str,_,off,s,y=>if off==0 then Ty.cast s .str y else none
 | .slice e t,_,off,s,y=>if off==0 then Ty.cast s (.slice e t) y else none
def rd {α:Type} (xs:List α) (i:Int) (d:α):α:=xs.getD i.toNat d
def has (L:List Nat) (l:Nat):Bool:=L.any (Nat.beq l)
def zv0:List Nat→Bool
 | []=>true
 | x::r=>!has r x&&zv0 r
abbrev Objs:=List AObj
def obj (os:Objs) (l:Nat):AObj:=os.getD l .dead
def St.reg (st:St) (t:Nat):SV:=st.regs.getD t (.one .undef)
def z04 (regs:List SV) (d:Option Tmp) (v:SV):List SV:=
 match d with
 | some t=>regs.set t v
 | none=>regs
def St.put (st:St) (d:Option Tmp) (v:SV):St:={ st with regs:=z04 st.regs d v }
def z3d (os:Objs):Leaf→Option Ty
 | .val (.slice _ s) _ _=>some s
 | .own l=>match obj os l with
  | .row _ s _ _ _=>some s
  | _=>none
 | .sub l _ off=>match obj os l with
  | .row _ s _ _ _=>match z18 s s.zero off with
   | some ⟨.slice _ u,_⟩=>some u
   | _=>none
  | _=>none
 | .view l _ _=>match obj os l with
  | .row _ s _ _ _=>some s
  | _=>none
 | _=>none
def z08 (os:Objs) (t:Ty):Leaf→Option (List t.den×List Nat)
 | .nilS=>some ([],[])
 | .val (.slice _ s) x L=>match zfc s t x with | some y=>some (y,L) | none=>none
 | .own l=>match obj os l with
  | .row _ s xs _ L=>match zfc s t xs with | some y=>some (y,l::L) | none=>none
  | _=>none
 | .sub l i off=>match obj os l with
  | .row _ s xs _ L=>match z18 s (rd xs i s.zero) off with
   | some ⟨.slice _ u,x⟩=>match zfc u t x with | some y=>some (y,l::L) | none=>none
   | _=>none
  | _=>none
 | .view l lo hi=>match obj os l with
  | .row _ s xs _ L=>match zfc s t ((xs.take hi.toNat).drop lo.toNat) with | some y=>some (y,l::L) | none=>none
  | _=>none
 | _=>none
def z14 (os:Objs):(t:Ty)→List Leaf→Option (t.den×List Nat×List Leaf)
 | .pair a b,ls=>match z14 os a ls with
  | some (x,L,r)=>match z14 os b r with
   | some (y,M,q)=>some ((x,y),L++M,q)
   | none=>none
  | none=>none
 | .unit,ls=>some ((),[],ls)
 | .slice _ t,c::r=>match z08 os t c with
  | some (x,L)=>some (x,L,r)
  | none=>none
 | .int k,.val s x _::r=>match Ty.cast s (.int k) x with | some y=>some (y,[],r) | none=>none
 | .bool,.val s x _::r=>match Ty.cast s .bool x with | some y=>some (y,[],r) | none=>none
 | .str,.val s x _::r=>match Ty.cast s .str x with | some y=>some (y,[],r) | none=>none
 | _,_=>none
def z1p (os:Objs):(t:Ty)→List Leaf→Option (t.den×List Nat×List Leaf)
 | .pair a b,ls=>match z1p os a ls with
  | some (x,L,r)=>match z1p os b r with
   | some (y,M,q)=>some ((x,y),L++M,q)
   | none=>none
  | none=>none
 | .unit,ls=>some ((),[],ls)
 | .slice _ _,.nilS::r=>some ([],[],r)
 | .slice e t,.own l::r=>match obj os l with
  | .row e' s xs true _=>if e'==e then match zfc s t xs with | some y=>some (y,[l],r) | none=>none else none
  | _=>none
 | .int k,.val s x _::r=>match Ty.cast s (.int k) x with | some y=>some (y,[],r) | none=>none
 | .bool,.val s x _::r=>match Ty.cast s .bool x with | some y=>some (y,[],r) | none=>none
 | .str,.val s x _::r=>match Ty.cast s .str x with | some y=>some (y,[],r) | none=>none
 | _,_=>none
def z0z (os:Objs):(t:Ty)→List Leaf→Option (t.den×List Nat×List Leaf)
 | .pair a b,ls=>match z0z os a ls with
  | some (x,L,r)=>match z0z os b r with
   | some (y,M,q)=>some ((x,y),L++M,q)
   | none=>none
  | none=>none
 | .unit,ls=>some ((),[],ls)
 | .slice _ _,.nilS::r=>some ([],[],r)
 | .slice e t,.own l::r=>match obj os l with
  | .row e' s xs true _=>if e'==e then match zfc s t xs with | some y=>some (y,[l],r) | none=>none else none
  | _=>none
 | .slice e t,.sub l i off::r=>match obj os l with
  | .row _ s xs true _=>match z18 s (rd xs i s.zero) off with
   | some ⟨.slice e' u,x⟩=>if e'==e then match zfc u t x with | some y=>some (y,[l],r) | none=>none else none
   | _=>none
  | _=>none
 | .int k,.val s x _::r=>match Ty.cast s (.int k) x with | some y=>some (y,[],r) | none=>none
 | .bool,.val s x _::r=>match Ty.cast s .bool x with | some y=>some (y,[],r) | none=>none
 | .str,.val s x _::r=>match Ty.cast s .str x with | some y=>some (y,[],r) | none=>none
 | _,_=>none
def z17 (os:Objs):(t:Ty)→t.den→List Leaf→Option (Objs×List Leaf)
 | .pair a b,x,ls=>match z17 os a x.1 ls with
  | some (os',r)=>z17 os' b x.2 r
  | none=>none
 | .unit,_,ls=>some (os,ls)
 | .slice _ _,_,.nilS::r=>some (os,r)
 | .slice _ t,y,.own l::r=>match obj os l with
  | .row e s _ d L=>match zfc t s y with | some ys=>some (os.set l (.row e s ys d L),r) | none=>none
  | _=>none
 | .slice e t,y,.sub l i off::r=>match obj os l with
  | .row e' s xs d L=>match z2m s (rd xs i s.zero) off (.slice e t) y with
   | some z=>some (os.set l (.row e' s (xs.set i.toNat z) d L),r)
   | none=>none
  | _=>none
 | .int _,_,_::r=>some (os,r)
 | .bool,_,_::r=>some (os,r)
 | .str,_,_::r=>some (os,r)
 | _,_,_=>none
def SV.leaves:SV→Option (Bool×List Leaf)
 | .one c=>some (false,[c])
 | .agg cs=>some (true,cs)
 | .tup _=>none
def z90:Bool→List Leaf→SV
 | true,cs=>.agg cs
 | false,[c]=>.one c
 | false,_=>.one .undef
def Leaf.dies (hd:Bool) (l:Nat):Leaf→Bool
 | .val _ _ L | .ela _ _ _ _ L=>has L l
 | .own k | .oela k _ _ | .view k _ _ | .ptr k _=>hd&&k==l
 | .sub k _ _ | .oel2 k _ _ _ _ | .hol k _=>k==l
 | .fn _ caps=>hd&&caps.any fun p=>p.1==l
 | _=>false
def Leaf.kill (m:Bool) (l:Nat) (c:Leaf):Leaf:=if c.dies m l then .undef else c
def SV.kill (m:Bool) (l:Nat):SV→SV
 | .one c=>.one (c.kill m l)
 | .agg cs=>.agg (cs.map (Leaf.kill m l))
 | .tup vs=>.tup (vs.map fun v=>(v.1,v.2.map (Leaf.kill m l)))
def AObj.kill (m:Bool) (l:Nat):AObj→AObj
 | .box cs=>.box (cs.map (Leaf.kill m l))
 | o=>o
def AObj.leans (l:Nat):AObj→Bool
 | .row _ _ _ _ L=>has L l
 | _=>false
def St.kill (m:Bool) (l:Nat) (st:St):Option St:=
 if st.objs.any (AObj.leans l) then none else some { st with regs:=st.regs.map (SV.kill m l),objs:=st.objs.map (AObj.kill m l),frm:=st.frm.map (Leaf.kill m l) }
def St.killAll (m:Bool):List Nat→St→Option St
 | [],st=>some st
 | l::r,st=>match st.kill m l with
  | some st'=>st'.killAll m r
  | none=>none
def z0n (M:List Nat) (os:Objs):Objs:=M.foldl (fun os m=>os.set m .dead) os
def St.move (st:St) (M:List Nat) (hd:Bool) (l:Nat):Option St:=
 if zv0 (l::M)&&M.all (fun m=>!Nat.blt m st.ro&&!Nat.blt m st.fx) then match st.killAll true M with
  | some st'=>st'.kill hd l
  | none=>none
 else none
def zv4:Value→SV
 | .int k n=>.one (.val (.int k) n [])
 | .bool b=>.one (.val .bool b [])
 | .string s=>.one (.val .str s [])
 | .slice none 0 0=>.one .nilS
 | _=>.one .undef
def St.ev (st:St):Operand→SV
 | .tmp t=>st.reg t
 | .const v=>zv4 v
 | .global _=>.one .undef
 | .func f=>.one (.fn f [])
def SV.leaf:SV→Leaf
 | .one c=>c
 | _=>.undef
def vint (k:IntKind) (n:Int):SV:=.one (.val (.int k) n [])
def zbu (b:Bool):SV:=.one (.val .bool b [])
def vstr (s:ByteArray):SV:=.one (.val .str s [])
def znd (j k:IntKind):Bool:=decide (j=k)
def y0v (op:BinOp) (k:IntKind) (a b:Int):Tree SV:=
 match op with
 | .add=>.ret (vint k (k.wrap (a+b)))
 | .sub=>.ret (vint k (k.wrap (a - b)))
 | .mul=>.ret (vint k (k.wrap (a*b)))
 | .quo=>.ite (b==0) .fail (.ret (vint k (k.wrap (a.tdiv b))))
 | .rem=>.ite (b==0) .fail (.ret (vint k (a.tmod b)))
 | .eql=>.ret (zbu (a==b))
 | .neq=>.ret (zbu (a != b))
 | .lss=>.ret (zbu (decide (a<b)))
 | .leq=>.ret (zbu (decide (a≤b)))
 | .gtr=>.ret (zbu (decide (a > b)))
 | .geq=>.ret (zbu (decide (a≥b)))
 | .and=>.ret (vint k (bits .and k a b))
 | .or=>.ret (vint k (bits .or k a b))
 | .xor=>.ret (vint k (bits .xor k a b))
 | .andNot=>.ret (vint k (bits .andNot k a b))
 | _=>.fail
def shOp:BinOp→Bool
 | .shl | .shr=>true
 | _=>false
def y1q (op:BinOp) (k:IntKind) (a b:Int):Int:=
 match op with
 | .shl=>k.wrap (a*2 ^ min b.toNat k.bits)
 | _=>a / 2 ^ min b.toNat k.bits
def y0p (op:BinOp) (a b:ByteArray):Tree SV:=
 match op with
 | .add=>.need (decide (a.size+b.size≤9223372036854775807)) (.ret (vstr (a++b)))
 | .eql=>.ret (zbu (a.toList==b.toList))
 | .neq=>.ret (zbu (!(a.toList==b.toList)))
 | .lss=>.ret (zbu (Op.bytesLess a.toList b.toList))
 | _=>.fail
def zde:List Leaf→List Leaf→Option Bool
 | [],[]=>some true
 | .val (.int .i64) x _::r,.val (.int .i64) y _::s=>match zde r s with
  | some b=>some (@BEq.beq Int _ x y&&b)
  | none=>none
 | .val .str x _::r,.val .str y _::s=>match zde r s with
  | some b=>some (@BEq.beq (List UInt8) _ (ByteArray.toList x) (ByteArray.toList y)&&b)
  | none=>none
 | _,_=>none
def z62:List Bool→List Leaf→Bool
 | [],[]=>true
 | false::r,.val (.int .i64) _ _::l=>z62 r l
 | true::r,.val .str _ _::l=>z62 r l
 | _,_=>false
def bin (eqs:List (TypeId×List Bool)) (isB:Bool) (op:BinOp) (t:TypeId) (x y:SV):Tree SV:=
 match x,y with
 | .one (.val (.int k) a _),.one (.val (.int j) b _)=>if shOp op then .ite (decide (b<0)) .fail (.ret (vint k (y1q op k a b))) else if znd k j then y0v op k a b else .fail
 | .one (.val .str a _),.one (.val .str b _)=>y0p op a b
 | .one (.val .bool a _),.one (.val .bool b _)=>if isB then
   match op with
   | .eql=>.ret (zbu (a==b))
   | .neq=>.ret (zbu (a != b))
   | _=>.fail
   else .fail
 | .agg a,.agg b=>match z4i eqs t with
  | some sh=>if z62 sh a&&z62 sh b then
   match op,zde a b with
   | .eql,some r=>.ret (zbu r)
   | .neq,some r=>.ret (zbu (!r))
   | _,_=>.fail
   else .fail
  | none=>.fail
 | _,_=>.fail
def un (op:UnOp) (x:SV):Tree SV:=
 match op,x with
 | .not,.one (.val .bool b _)=>.ret (zbu (!b))
 | .neg,.one (.val (.int k) n _)=>.ret (vint k (k.wrap (0 - n)))
 | _,_=>.fail
def bt (s:ByteArray) (i:Int):Int:=if h:i.toNat<s.size then ((s[i.toNat]'h).toNat:Int) else 0
def zza (xs:List Int):ByteArray:=⟨(xs.map fun n=>n.toNat.toUInt8).toArray⟩
def bnd (ρ:Operand→SV) (d:Int):Option Operand→Option Int
 | none=>some d
 | some o=>match ρ o with
  | .one (.val (.int _) n _)=>some n
  | _=>none
def zb1 (isS:Bool) (okT:Ty→Bool) (ρ:Operand→SV) (os:Objs) (x:SV) (lo hi:Option Operand):Tree SV:=
 match x with
 | .one (.val .str s _)=>if isS then
  match bnd ρ 0 lo,bnd ρ (s.size:Int) hi with
  | some l,some h=>.need (decide (0≤h)) (.need (decide (h≤s.size)) (.need (decide (0≤l)) (.need (decide (l≤h)) (.ret (vstr (s.extract l.toNat h.toNat))))))
  | _,_=>.fail
  else .fail
 | .one c=>
  match z3d os c with
  | none=>.fail
  | some t=>if okT t then match z08 os t c with
   | none=>.fail
   | some (xs,L)=>
    match bnd ρ 0 lo,bnd ρ (xs.length:Int) hi with
    | some l,some h=>.need (decide (0≤h)) (.need (decide (h≤xs.length)) (.need (decide (0≤l)) (.need (decide (l≤h)) (.ret (.one (.val (.slice 0 t) ((xs.take h.toNat).drop l.toNat) L))))))
    | _,_=>.fail
   else .fail
 | _=>.fail
def ztl (vw:Bool):SV→Option Nat
 | .one (.own l)=>if vw then some l else none
 | _=>none
def ze6 (okT:Ty→Bool) (ρ:Operand→SV) (os:Objs) (l:Nat) (lo hi:Option Operand):Tree SV:=
 match obj os l with
 | .row _ t xs _ _=>if okT t then match bnd ρ 0 lo,bnd ρ (xs.length:Int) hi with
  | some i,some j=>.need (decide (0≤j)) (.need (decide (j≤xs.length)) (.need (decide (0≤i)) (.need (decide (i≤j)) (.ret (.one (.view l i j))))))
  | _,_=>.fail
  else .fail
 | _=>.fail
def z5d (vw isS:Bool) (okT:Ty→Bool) (ρ:Operand→SV) (os:Objs) (x:SV) (lo hi:Option Operand):Tree SV:=
 match ztl vw x with
 | some l=>ze6 okT ρ os l lo hi
 | none=>zb1 isS okT ρ os x lo hi
def zqs (isS isL:Bool) (os:Objs) (x:SV):Option Int:=
 match x with
 | .one (.val .str s _)=>if isS then some (s.size:Int) else none
 | .one .nilS=>if isL then some 0 else none
 | .one c=>if !isL then none else match z3d os c with
  | some t=>match z08 os t c with
   | some (xs,_)=>some (xs.length:Int)
   | none=>none
  | none=>none
 | _=>none
def z1k (os:Objs) (ti:TI) (c:Leaf):Option SV:=
 let mkv (ls:List Leaf):Option SV:=
  let ls:=ls.take ti.ty.size
  if ls.length==ti.ty.size then (if ti.agg then some (.agg ls) else match ls with | [c]=>some (.one c) | _=>none) else none
 match c with
 | .ptr l off=>match obj os l with
  | .box cs=>mkv (cs.drop off)
  | _=>none
 | .ela t xs i off L=>mkv ((z2k t (rd xs i t.zero) L).drop off)
 | .oela l i off=>match obj os l with
  | .row _ t xs true _=>mkv ((zjz t (rd xs i t.zero) l i 0).drop off)
  | .row _ t xs false L=>mkv ((z2k t (rd xs i t.zero) L).drop off)
  | _=>none
 | .oel2 l i off j o2=>match z3d os (.sub l i off) with
  | some u=>match z08 os u (.sub l i off) with
   | some (ys,L)=>mkv ((z2k u (rd ys j u.zero) L).drop o2)
   | none=>none
  | none=>none
 | .hol l (.pl i)=>match obj os l with
  | .hol _ (.slice e u) _=>if decide (ti.ty=.slice e u)&&!ti.agg then some (.one (.hol l (.el i))) else none
  | _=>none
 | _=>none
def z83 (cs:List Leaf) (off:Nat) (ls:List Leaf):Option (List Leaf):=
 if off+ls.length≤cs.length then some (cs.take off++ls++cs.drop (off+ls.length)) else none
def z34:(t:Ty)→t.den→Nat→List Leaf→Option t.den
 | _,x,_,[]=>some x
 | t,x,off,.val s y _::r=>if s.flat&&s.size==1 then match z2m t x off s y with
  | some z=>z34 t z (off+1) r
  | none=>none else none
 | _,_,_,_=>none
def uni (L M:List Nat):List Nat:=M.foldl (fun L m=>if has L m then L else L++[m]) L
def zfz (os:Objs):(t:Ty)→t.den→Nat→Leaf→Option (t.den×List Nat)
 | .pair a b,x,off,c=>
  if off<a.size then match zfz os a x.1 off c with
   | some (z,M)=>some ((z,x.2),M)
   | none=>none
  else match zfz os b x.2 (off - a.size) c with
   | some (z,M)=>some ((x.1,z),M)
   | none=>none
 | .slice _ t,_,off,c=>if off==0 then z08 os t c else none
 | .int k,_,off,.val s y _=>if off==0 then match Ty.cast s (.int k) y with
   | some z=>some (z,[])
   | none=>none
  else none
 | .bool,_,off,.val s y _=>if off==0 then match Ty.cast s .bool y with
   | some z=>some (z,[])
   | none=>none
  else none
 | .str,_,off,.val s y _=>if off==0 then match Ty.cast s .str y with
   | some z=>some (z,[])
   | none=>none
  else none
 | _,_,_,_=>none
def zkx (os:Objs):(t:Ty)→t.den→Nat→List Leaf→Option (t.den×List Nat)
 | _,x,_,[]=>some (x,[])
 | t,x,off,c::r=>match zfz os t x off c with
  | some (z,M)=>match zkx os t z (off+1) r with
   | some (q,N)=>some (q,M++N)
   | none=>none
  | none=>none
def St.loosen (st:St) (l:Nat) (L':List Nat):Option St:=
 if Nat.blt l st.ro||Nat.blt l st.fx then none else
 match obj st.objs l with
 | .row e t xs _ L=>match st.kill false l with
  | some st'=>some { st' with objs:=st'.objs.set l (.row e t xs false (uni L L')) }
  | none=>none
 | _=>none
def St.loose (st:St) (d:Bool) (l:Nat):Option St:=if d then st.loosen l [] else some st
def frz1 (os:Objs) (m:Nat):Leaf→Leaf
 | .own k=>if k==m then match obj os m with
   | .row e t xs _ L=>.val (.slice e t) xs L
   | _=>.undef
  else .own k
 | c=>c.kill true m
def zl0:List Leaf→List Nat
 | []=>[]
 | .own m::r=>m::zl0 r
 | _::r=>zl0 r
def St.frzLs:List Nat→List Leaf→St→Option (List Leaf×St)
 | [],ls,st=>some (ls,st)
 | m::M,ls,st=>if Nat.blt m st.ro||Nat.blt m st.fx then none else
  match obj st.objs m with
  | .row _ _ _ _ _=>match st.kill true m with
   | some st'=>St.frzLs M (ls.map (frz1 st.objs m)) { st' with objs:=st'.objs.set m .dead }
   | none=>none
  | _=>none
def SV.mapL (f:Leaf→Leaf):SV→SV
 | .one c=>.one (f c)
 | .agg cs=>.agg (cs.map f)
 | .tup vs=>.tup (vs.map fun v=>(v.1,v.2.map f))
def AObj.mapL (f:Leaf→Leaf):AObj→AObj
 | .box cs=>.box (cs.map f)
 | o=>o
def St.mapS (st:St) (f:Leaf→Leaf):St:={ st with regs:=st.regs.map (SV.mapL f),objs:=st.objs.map (AObj.mapL f),frm:=st.frm.map f }
def Leaf.toHol (l:Nat):Leaf→Leaf
 | .own k=>if k==l then .hol l .hd else .own k
 | .sub k i off=>if k==l then (if off==0 then .hol l (.el i) else .undef) else .sub k i off
 | c=>c.kill true l
def Leaf.unHol (l:Nat):Leaf→Leaf
 | .hol k .hd=>.hol k .hd
 | c=>c.kill true l
def Ty.isSl:Ty→Bool
 | .slice _ _=>true
 | _=>false
def St.toHol (st:St) (l:Nat):Option St:=
 if Nat.blt l st.ro||(Nat.blt l st.fx||st.objs.any (AObj.leans l)) then none else
 match obj st.objs l with
 | .row e t xs true []=>if t.isSl then some { st.mapS (Leaf.toHol l) with objs:=(st.objs.map (AObj.mapL (Leaf.toHol l))).set l (.hol e t (xs.map some)) } else none
 | .hol _ _ _=>some st
 | _=>none
def St.takeHol (st:St) (r:Tmp):Tree St:=
 match st.reg r with
 | .one (.hol l (.el i))=>if Nat.blt l st.ro||(Nat.blt l st.fx||st.objs.any (AObj.leans l)) then .fail else
  match obj st.objs l with
  | .hol e (.slice e' u) ys=>.bind (ys.getD i.toNat none) fun x=>
    .ret { st with regs:=(st.regs.map (SV.mapL (Leaf.unHol l))).set r (.one (.own st.objs.length)),objs:=(st.objs.map (AObj.mapL (Leaf.unHol l))).set l (.hol e (.slice e' u) (ys.set i.toNat none))++[AObj.row e' u x true []],frm:=st.frm.map (Leaf.unHol l) }
  | _=>.fail
 | _=>.fail
def St.splitHol (st:St) (r:Tmp):Tree St:=
 match st.reg r with
 | .one (.sub l _ _)=>match st.toHol l with
  | some st1=>st1.takeHol r
  | none=>.fail
 | _=>st.takeHol r
def zfd {α:Type}:List (Option α)→Option (List α)
 | []=>some []
 | none::_=>none
 | some x::r=>match zfd r with
  | some ys=>some (x::ys)
  | none=>none
def holD {α:Type} (ys:List (Option α)) (i j:Int):Option (List α):=
 if decide (0≤i)&&(decide (i<ys.length)&&decide (j=i+1)) then zfd (ys.eraseIdx i.toNat) else none
def z81 (st:St) (l:Nat) (i:Int) (off:Nat) (ls:List Leaf):Option St:=
 match obj st.objs l with
 | .row e t xs d L=>
  if Nat.blt l st.ro||has (zl0 ls) l then none else
  match st.frzLs (zl0 ls) ls with
  | some (ls1,st1)=>match st1.loose d l with
   | some st2=>match zkx st2.objs t (rd xs i t.zero) off (ls1.map (Leaf.kill false l)) with
    | some (z,M)=>if has M l then none else match st2.kill false l with
     | some st3=>some { st3 with objs:=st3.objs.set l (.row e t (xs.set i.toNat z) false (uni L M)) }
     | none=>none
    | none=>none
   | none=>none
  | none=>none
 | _=>none
def zjp (st:St) (ti:TI) (l:Nat) (i:Int) (off:Nat) (j:Int) (o2:Nat) (ls:List Leaf):Option St:=
 if Nat.blt l st.ro||Nat.blt l st.fx then none else
 match obj st.objs l with
 | .row e t xs true L=>match z18 t (rd xs i t.zero) off with
  | some ⟨.slice e' u,ys⟩=>if o2==0&&decide (ti.ty=u) then match z1p st.objs u ls with
   | some (q,M,[])=>match z2m t (rd xs i t.zero) off (.slice e' u) (ys.set j.toNat q) with
    | some z=>match st.move M false l with
     | some st'=>some { st' with objs:=(z0n M st'.objs).set l (.row e t (xs.set i.toNat z) true L) }
     | none=>none
    | none=>none
   | _=>none
   else none
  | _=>none
 | _=>none
def zk7 (st:St) (l:Nat) (i:Int) (off:Nat) (j:Int) (o2:Nat) (ls:List Leaf):Option St:=
 if Nat.blt l st.ro then none else
 match obj st.objs l with
 | .row e t xs true L=>match z18 t (rd xs i t.zero) off with
  | some ⟨.slice e' u,ys⟩=>match z34 u (rd ys j u.zero) o2 ls with
   | some q=>match z2m t (rd xs i t.zero) off (.slice e' u) (ys.set j.toNat q) with
    | some z=>match st.kill false l with
     | some st'=>some { st' with objs:=st'.objs.set l (.row e t (xs.set i.toNat z) true L) }
     | none=>none
    | none=>none
   | none=>none
  | _=>none
 | _=>none
def z8f (st:St) (ti:TI) (c:Leaf) (v:SV):Option St:=
 match v.leaves with
 | none=>none
 | some (_,ls)=>
  if ls.length==ti.ty.size&&Nat.blt 0 ti.ty.size then
   match c with
   | .ptr l off=>if Nat.blt l st.ro then none else match st.kill false l with
    | none=>none
    | some st'=>match obj st'.objs l with
     | .box cs=>match z83 cs off (ls.map (Leaf.kill false l)) with
      | some cs'=>if (ls.map (Leaf.kill false l)).all Leaf.known then some { st' with objs:=st'.objs.set l (.box cs') } else none
      | none=>none
     | _=>none
   | .oela l i off=>if Nat.blt l st.ro then none else match obj st.objs l with
    | .row e t xs deep L=>
     if ti.ty.flat then match z34 t (rd xs i t.zero) off ls with
      | some z=>match st.kill false l with
       | some st'=>some { st' with objs:=st'.objs.set l (.row e t (xs.set i.toNat z) deep L) }
       | none=>none
      | none=>none
     else if deep&&off==0&&decide (ti.ty=t)&&!Nat.blt l st.fx then match z1p st.objs t ls with
      | some (z,M,[])=>match st.move M false l with
       | some st'=>some { st' with objs:=(z0n M st'.objs).set l (.row e t (xs.set i.toNat z) deep L) }
       | none=>z81 st l i off ls
      | _=>z81 st l i off ls
     else z81 st l i off ls
    | _=>none
   | .oel2 l i off j o2=>if ti.ty.flat then zk7 st l i off j o2 ls else zjp st ti l i off j o2 ls
   | _=>none
  else none
def z2x (t:Ty) (os:Objs) (deep:Bool):List (Nat×SV)→Nat→Option (List t.den×List Nat)
 | [],_=>some ([],[])
 | (j,v)::r,i=>if j==i then match v.leaves with
  | none=>none
  | some (_,ls)=>match (if deep then z1p os t ls else z14 os t ls) with
   | some (x,M,[])=>match z2x t os deep r (i+1) with
    | some (xs,L)=>some (x::xs,M++L)
    | none=>none
   | _=>none
  else none
def y0g (os:Objs):Leaf→Option (Nat×Int×Int)
 | .own l=>match obj os l with
  | .row _ _ xs _ _=>some (l,0,xs.length)
  | _=>none
 | .view l lo hi=>some (l,lo,hi)
 | _=>none
def zbo {α:Type} (ys:List α) (lo hi:Int):Nat:=min ys.length (hi.toNat - lo.toNat)
def ztd {α:Type} (xs ys:List α) (lo hi:Int):List α:=xs.take lo.toNat++ys.take (zbo ys lo hi)++xs.drop (lo.toNat+zbo ys lo hi)
def zrh (st:St) (d:Option Tmp) (l:Nat) (lo hi:Int) (x:Leaf):Tree St:=
 if Nat.blt l st.ro then .fail else
 match obj st.objs l with
 | .row e t xs deep L=>
  if t.flat&&t.size==1 then match z08 st.objs t x with
   | none=>.fail
   | some (ys,_)=>match st.kill false l with
    | some st'=>.ret (({ st' with objs:=st'.objs.set l (.row e t (ztd xs ys lo hi) deep L) }).put d (vint .i64 (zbo ys lo hi:Nat)))
    | none=>.fail
   else .fail
 | _=>.fail
def zcg (st:St) (d:Option Tmp) (e:TypeId) (l:Nat) (t:Ty) (deep:Bool) (L:List Nat) (xs:List t.den) (ys:List t.den) (dm:Bool) (m:Nat) (M:List Nat):Tree St:=
 if has M l||Nat.beq m l then .fail else
 match st.loose dm m with
 | none=>.fail
 | some st1=>match st1.loose deep l with
  | none=>.fail
  | some st2=>match st2.kill true l with
   | none=>.fail
   | some st3=>.ret (({ st3 with objs:=st3.objs.set l (.row e t (xs++ys) false (uni L M)) }).put d (.one (.own l)))
def zwi (os:Objs) (t:Ty):Leaf→Option (Bool×Nat×List Nat)
 | .own m=>match obj os m with
  | .row _ _ _ dm Lm=>some (dm,m,Lm)
  | _=>none
 | c=>match z08 os t c with
  | some (_,M)=>some (false,os.length,M)
  | none=>none
def zsc (st:St) (d:Option Tmp) (e:TypeId) (l:Nat) (t:Ty) (deep:Bool) (L:List Nat) (xs ys:List t.den) (x:Leaf):Tree St:=
 match zwi st.objs t x with
 | some (dm,m,N)=>zcg st d e l t deep L xs ys dm m N
 | none=>.fail
def zdi (st:St) (d:Option Tmp) (e:TypeId) (ti:TI) (l:Nat) (x:Leaf):Tree St:=
 if Nat.blt l st.ro||Nat.blt l st.fx then .fail else
 match obj st.objs l with
 | .row e' t xs deep L=>
  if e'==e&&Nat.blt 0 t.size&&t.size==ti.ty.size&&Nat.blt 0 ti.bytes then
   match z08 st.objs t x with
   | none=>.fail
   | some (ys,M)=>
    .need (decide ((xs.length+ys.length)*ti.bytes≤140737488355328))
     (if t.flat then
      (if has M l then .fail else match st.kill true l with
       | some st=>.ret (({ st with objs:=st.objs.set l (.row e t (xs++ys) deep L) }).put d (.one (.own l)))
       | none=>.fail)
     else
      match deep,x with
      | true,.nilS=>match st.kill true l with
       | some st=>.ret (({ st with objs:=st.objs.set l (.row e t (xs++ys) true L) }).put d (.one (.own l)))
       | none=>.fail
      | true,.own m=>match obj st.objs m with
       | .row e2 t2 _ true _=>if e2==e'&&decide (t2=t) then match st.move [m] true l with
        | some st=>.ret (({ st with objs:=(z0n [m] st.objs).set l (.row e t (xs++ys) true L) }).put d (.one (.own l)))
        | none=>.fail else zsc st d e l t deep L xs ys x
       | _=>zsc st d e l t deep L xs ys x
      | _,_=>zsc st d e l t deep L xs ys x)
  else .fail
 | _=>.fail
inductive PIn where
 | imm (agg:Bool) (t:Ty)
 | mut (agg:Bool) (t:Ty)
 | clo (gs:List (Bool×Ty)) (r:Ty)
 | ptr (t:Ty)
inductive POut where
 | imm (agg:Bool) (t:Ty)
 | deep (agg:Bool) (t:Ty)
@[reducible] def PIn.den:PIn→Type
 | .imm _ t=>t.den
 | .mut _ t=>t.den
 | .clo gs r=>zca gs→Option r.den
 | .ptr t=>t.den
@[reducible] def POut.ty:POut→Ty
 | .imm _ t=>t
 | .deep _ t=>t
def POut.agg:POut→Bool
 | .imm b _=>b
 | .deep b _=>b
@[reducible] def z6e:List PIn→Type
 | []=>Unit
 | p::r=>p.den×z6e r
@[reducible] def z4z:List POut→Type
 | []=>Unit
 | p::r=>p.ty.den×z4z r
@[reducible] def z51:List PIn→Type
 | []=>Unit
 | .mut _ t::r=>t.den×z51 r
 | .ptr t::r=>t.den×z51 r
 | .imm _ _::r=>z51 r
 | .clo _ _::r=>z51 r
structure FSpec where
 ins:List PIn
 outs:List POut
 fn:z6e ins→Option (z4z outs×z51 ins)
 q:Bool:=true
def PIn.isMut:PIn→Bool
 | .mut _ _=>true
 | .ptr _=>true
 | _=>false
def PIn.isClo:PIn→Bool
 | .clo _ _=>true
 | _=>false
inductive Spot where
 | r (i:Nat) | f (i:Nat) | b (l k:Nat)
inductive Adj where
 | row (l k:Nat) (e:TypeId) (t:Ty) (d:Bool) (L:List Nat)
 | loose (l:Nat) (L:List Nat)
 | frz (s:Spot) (e:TypeId) (t:Ty)
 | lean (s:Spot) (L:List Nat)
 | take (s:Spot) (c:Nat)
 | drop (i:Nat)
 | look (s:Spot)
 | hole (l:Nat)
structure CloInfo where
 fn:Func
 gs:List (Bool×Ty)
 live:List (Nat×List Nat×List Adj)
 imm:List Nat
 rsl:List Nat
 app:List Nat
 hol:List Nat
inductive RK where
 | filter | cut | sort
structure RInfo where
 k:RK
 e:TypeId
 size:Nat
 ag:Bool
structure Env where
 tab:List (TypeId×TI)
 sig:List (FuncId×FSpec):=[]
 clos:List (FuncId×CloInfo):=[]
 live:List (Nat×List Nat×List Adj):=[]
 eqs:List (TypeId×List Bool):=[]
 inl:List Nat:=[]
 views:Bool:=false
 rfn:List (FuncId×RInfo):=[]
 brw:Bool:=false
 imm:List Nat:=[]
 q:Bool:=true
 res:Bool:=false
 slots:List (Nat×Nat):=[]
 cuts:List (Nat×List Nat×List Adj):=[]
 rsl:List Nat:=[]
 app:List Nat:=[]
 hol:List Nat:=[]
def Env.enter (E:Env) (ci:CloInfo):Env:={ E with live:=ci.live,cuts:=[],imm:=ci.imm,rsl:=ci.rsl,app:=ci.app,hol:=ci.hol }
def tyOf (E:Env) (t:TypeId):Option TI:=z4i E.tab t
def zou (E:Env) (t:TypeId):Bool:=match tyOf E t with
 | some { td:=.data,ty:=.bool,.. }=>true
 | _=>false
def z3b (E:Env) (t:TypeId):Option Nat:=match tyOf E t with
 | some { td:=.slice e,.. }=>match tyOf E e with
  | some ti=>some ti.ty.size
  | none=>none
 | _=>none
def z7b (E:Env) (t:TypeId):Bool:=match tyOf E t with
 | some { td:=.data,ty:=.str,.. }=>true
 | _=>false
def z88 (E:Env) (t:TypeId):Bool:=match tyOf E t with
 | some { td:=.slice _,.. }=>true
 | _=>false
def szIs (z:Option Nat) (t:Ty):Bool:=match z with
 | some n=>n==t.size
 | none=>false
abbrev CB:=(g:FuncId)→List (Nat×Nat)→Objs→(gs:List (Bool×Ty))→(r:Ty)→zca gs→Option r.den
def z05 (cb:CB) (os:Objs):(ps:List PIn)→List SV→Option (z6e ps×List Nat×List Nat)
 | [],[]=>some ((),[],[])
 | .imm b t::ps,v::vs=>match v.leaves with
  | some (b',ls)=>if b'==b then match z14 os t ls with
   | some (x,L,[])=>match z05 cb os ps vs with
    | some (y,M,W)=>some ((x,y),L++M,W)
    | none=>none
   | _=>none else none
  | none=>none
 | .mut b t::ps,v::vs=>match v.leaves with
  | some (b',ls)=>if b'==b then match z0z os t ls with
   | some (x,L,[])=>match z05 cb os ps vs with
    | some (y,M,W)=>some ((x,y),M,L++W)
    | none=>none
   | _=>none else none
  | none=>none
 | .clo gs r::ps,.one (.fn g caps)::vs=>match z05 cb os ps vs with
  | some (y,M,W)=>some ((cb g caps os gs r,y),List.range os.length++M,W)
  | none=>none
 | .clo gs r::ps,.one (.clo gs' r' p)::vs=>if h:gs'=gs∧r'=r then match z05 cb os ps vs with
  | some (y,M,W)=>some ((h.1▸h.2▸p,y),List.range os.length++M,W)
  | none=>none else none
 | .ptr t::ps,.one (.ptr l off)::vs=>if Nat.beq off 0 then match obj os l with
  | .box ls=>match z14 os t ls with
   | some (x,L,[])=>match z05 cb os ps vs with
    | some (y,M,W)=>some ((x,y),L++M,l::W)
    | none=>none
   | _=>none
  | _=>none else none
 | _,_=>none
def z19 (L:List Nat) (os:Objs):(ps:List PIn)→z51 ps→List SV→Option Objs
 | [],_,_=>some os
 | .mut _ t::ps,y,v::vs=>match v.leaves with
  | some (_,ls)=>match z17 os t y.1 ls with
   | some (os',[])=>z19 L os' ps y.2 vs
   | _=>none
  | none=>none
 | .imm _ _::ps,y,_::vs=>z19 L os ps y vs
 | .clo _ _::ps,y,_::vs=>z19 L os ps y vs
 | .ptr t::ps,y,.one (.ptr l _)::vs=>z19 L (os.set l (.box (z2k t y.1 L))) ps y.2 vs
 | _,_,_=>none
def z02:(t:Ty)→t.den→Nat→List Leaf×Objs
 | .pair a b,x,n=>((z02 a x.1 n).1++(z02 b x.2 (n+(z02 a x.1 n).2.length)).1,(z02 a x.1 n).2++(z02 b x.2 (n+(z02 a x.1 n).2.length)).2)
 | .unit,_,_=>([],[])
 | .int k,x,_=>([.val (.int k) x []],[])
 | .bool,x,_=>([.val .bool x []],[])
 | .str,x,_=>([.val .str x []],[])
 | .slice e t,x,n=>([.own n],[.row e t x true []])
def z0e (L:List Nat):(ps:List POut)→z4z ps→Nat→List (Bool×List Leaf)×Objs
 | [],_,_=>([],[])
 | .imm b t::ps,y,n=>((b,z2k t y.1 L)::(z0e L ps y.2 n).1,(z0e L ps y.2 n).2)
 | .deep b t::ps,y,n=>
  ((b,(z02 t y.1 n).1)::(z0e L ps y.2 (n+(z02 t y.1 n).2.length)).1,
   (z02 t y.1 n).2++(z0e L ps y.2 (n+(z02 t y.1 n).2.length)).2)
def zbn:List POut→List POut
 | []=>[]
 | .imm b t::ps=>.imm b t::zbn ps
 | .deep b t::ps=>.imm b t::zbn ps
def zvy:(ps:List POut)→z4z ps→z4z (zbn ps)
 | [],y=>y
 | .imm _ _::ps,y=>(y.1,zvy ps y.2)
 | .deep _ _::ps,y=>(y.1,zvy ps y.2)
def z1s (L:List Nat):Option Tmp→Bool
 | some d=>has L d
 | none=>false
def zcp:List (Bool×List Leaf)→SV
 | [(b,ls)]=>z90 b ls
 | vs=>.tup vs
def ztf (im:Bool) (cb:CB) (os:Objs) (s:FSpec) (args:List SV):Tree (SV×Objs):=
 match z05 cb os s.ins args with
 | none=>.fail
 | some (x,L,_)=>.bind (s.fn x) fun y=>match im with
  | true=>.ret (zcp (z0e L (zbn s.outs) (zvy s.outs y.1) 0).1,[])
  | false=>.ret (zcp (z0e L s.outs y.1 os.length).1,(z0e L s.outs y.1 os.length).2)
def zrp (cb:CB) (st:St) (d:Option Tmp) (s:FSpec) (args:List SV):Tree St:=
 match z05 cb st.objs s.ins args with
 | none=>.fail
 | some (x,L,W)=>
  if zv0 W&&L.all (fun l=>!has W l)&&W.all (fun l=>!Nat.blt l st.ro)&&s.ins.all (fun p=>!p.isClo) then
   .bind (s.fn x) fun y=>match st.killAll false W with
    | none=>.fail
    | some st'=>match z19 L st'.objs s.ins y.2 args with
     | none=>.fail
     | some os=>.ret (({ st' with objs:=os++(z0e L s.outs y.1 os.length).2 }).put d (zcp (z0e L s.outs y.1 os.length).1))
  else .fail
def zd9 (os:Objs):(gs:List (Bool×Ty))→List SV→Option (zca gs)
 | [],[]=>some ()
 | (b,t)::gs,v::vs=>match v.leaves with
  | some (b',ls)=>if b'==b then match z14 os t ls with
   | some (x,_,[])=>match zd9 os gs vs with
    | some y=>some (x,y)
    | none=>none
   | _=>none else none
  | none=>none
 | _,_=>none
def zpd (os:Objs) (gs:List (Bool×Ty)) (r:Ty) (p:zca gs→Option r.den) (args:List SV):Tree (SV×Objs):=
 match zd9 os gs args with
 | some x=>.bind (p x) fun y=>if r.flat then match z2k r y [] with
  | [c]=>.ret (.one c,[])
  | _=>.fail else .fail
 | none=>.fail
def zsg (t:Tree SV):Tree (SV×Objs):=t.map fun v=>(v,[])
def ret1 (v:SV):Tree (SV×Objs):=.ret (v,[])
def zfu (os:Objs) (e:TypeId) (t:Ty) (xs:List t.den) (deep:Bool) (L:List Nat):Tree (SV×Objs):=
 .ret (.one (.own os.length),[.row e t xs deep L])
def zaj (fs:List FI) (ρ:Operand→SV) (acc:Option (List Leaf)) (p:Nat×Operand):Option (List Leaf):=
 match acc,fs[p.1]?,(ρ p.2).leaves with
 | some cs,some fi,some (_,ls)=>if ls.length==fi.size&&ls.all Leaf.known then z83 cs fi.off ls else none
 | _,_,_=>none
def y1t:Leaf→Option (Nat×Nat)
 | .ptr l off=>some (l,off)
 | _=>none
def Leaf.free:Leaf→Bool
 | .hol _ _ | .own _ | .sub _ _ _ | .ptr _ _ | .oela _ _ _ | .view _ _ _ | .oel2 _ _ _ _ _=>false
 | _=>true
def SV.free:SV→Bool
 | .one c=>c.free
 | .agg cs=>cs.all Leaf.free
 | .tup vs=>vs.all fun p=>p.2.all Leaf.free
def z0l (E:Env) (cb:CB) (ρ:Operand→SV) (os:Objs) (o:Oper):Tree (SV×Objs):=
 match o.op with
 | .move x=>ret1 (ρ x)
 | .assign x=>match ρ x with
  | .one .nilS=>match tyOf E o.type with
   | some { td:=.slice e,.. }=>match tyOf E e with
    | some ti=>zfu os e ti.ty [] true []
    | none=>.fail
   | _=>.fail
  | v=>ret1 v
 | .pick c a b=>match (ρ c).leaf with
  | .val .bool x _=>.ite x (ret1 (ρ a)) (ret1 (ρ b))
  | _=>.fail
 | .binOp op t x y _=>zsg (bin E.eqs (zou E t) op t (ρ x) (ρ y))
 | .unOp op _ x=>zsg (un op (ρ x))
 | .load t a=>match tyOf E t with
  | some ti=>match z1k os ti (ρ a).leaf with
   | some v=>ret1 v
   | none=>.fail
  | none=>.fail
 | .fieldAddr s x f=>match tyOf E s with
  | some { td:=.struct fs,.. }=>match fs[f]? with
   | some fi=>if fi.size==0 then .fail else match (ρ x).leaf with
    | .ptr l off=>ret1 (.one (.ptr l (off+fi.off)))
    | .ela t xs i off L=>ret1 (.one (.ela t xs i (off+fi.off) L))
    | .oela l i off=>ret1 (.one (.oela l i (off+fi.off)))
    | .oel2 l i off j o2=>ret1 (.one (.oel2 l i off j (o2+fi.off)))
    | _=>.fail
   | none=>.fail
  | _=>.fail
 | .indexAddr T x i=>match (ρ i).leaf with
  | .val (.int _) n _=>match (ρ x).leaf with
   | .val (.slice _ t) xs L=>if !szIs (z3b E T) t then .fail else .need (decide (0≤(n:Int))) (.need (decide ((n:Int)<xs.length)) (ret1 (.one (.ela t xs n 0 L))))
   | .own l=>match obj os l with
    | .row _ t xs _ _=>if !szIs (z3b E T) t then .fail else .need (decide (0≤(n:Int))) (.need (decide ((n:Int)<xs.length)) (ret1 (.one (.oela l n 0))))
    | _=>.fail
   | .sub l j off=>match z3d os (.sub l j off) with
    | some t=>match z08 os t (.sub l j off) with
     | some (xs,L)=>if !szIs (z3b E T) t then .fail else .need (decide (0≤(n:Int))) (.need (decide ((n:Int)<xs.length)) (ret1 (.one (.oel2 l j off n 0))))
     | none=>.fail
    | none=>.fail
   | .hol l .hd=>match obj os l with
    | .hol _ t ys=>if !szIs (z3b E T) t then .fail else .need (decide (0≤(n:Int))) (.need (decide ((n:Int)<ys.length)) (ret1 (.one (.hol l (.pl n)))))
    | _=>.fail
   | _=>.fail
  | _=>.fail
 | .index T x i=>match (ρ x).leaf,(ρ i).leaf with
  | .val .str s _,.val (.int _) n _=>if !z7b E T then .fail else .need (decide (0≤(n:Int))) (.need (decide ((n:Int)<s.size)) (ret1 (vint .u8 (bt s n))))
  | _,_=>.fail
 | .field s x f=>match tyOf E s,ρ x with
  | some { td:=.struct fs,.. },.agg cs=>match fs[f]? with
   | some fi=>match tyOf E fi.type with
    | some ti=>
     if ((cs.drop fi.off).take fi.size).length==fi.size&&fi.size==ti.ty.size then ret1 (z90 ti.agg ((cs.drop fi.off).take fi.size)) else .fail
    | none=>.fail
   | none=>.fail
  | _,_=>.fail
 | .extract x i=>match ρ x with
  | .tup vs=>match vs[i]? with
   | some (b,cs)=>ret1 (z90 b cs)
   | none=>.fail
  | _=>.fail
 | .build t parts=>match tyOf E t with
  | some { td:=.struct fs,ty,.. }=>
   match parts.toList.foldl (zaj fs ρ) (some (z1n ty)) with
   | some cs=>ret1 (.agg cs)
   | none=>.fail
  | _=>.fail
 | .buildSlice t n parts=>match tyOf E t with
  | some { td:=.slice e,.. }=>match tyOf E e with
   | some ti=>
    if decide (n*ti.ty.size≤16777216)&&Nat.blt 0 ti.ty.size&&n==parts.toList.length then
    match z1s E.imm o.dst&&parts.toList.all (fun p=>(ρ p.2).free) with
    | true=>match z2x ti.ty os false (parts.toList.map fun p=>(p.1,ρ p.2)) 0 with
     | some (xs,L)=>ret1 (.one (.val (.slice e ti.ty) xs L))
     | none=>.fail
    | false=>match z2x ti.ty os true (parts.toList.map fun p=>(p.1,ρ p.2)) 0 with
    | some (xs,[])=>zfu os e ti.ty xs true []
    | _=>match z2x ti.ty os false (parts.toList.map fun p=>(p.1,ρ p.2)) 0 with
     | some (xs,L)=>zfu os e ti.ty xs false L
     | none=>.fail
    else .fail
   | none=>.fail
  | _=>.fail
 | .makeSlice t n c=>match tyOf E t,(ρ n).leaf,(ρ c).leaf with
  | some { td:=.slice e,.. },.val (.int .i64) x _,.val (.int .i64) y _=>match tyOf E e with
   | some ti=>if Nat.blt 0 ti.ty.size&&Nat.blt 0 ti.bytes then .need (decide (0≤(x:Int))) (.need (@BEq.beq Int _ x y) (.need (decide ((x:Int)*ti.bytes≤140737488355328)) (zfu os e ti.ty (List.replicate (x:Int).toNat ti.ty.zero) true []))) else .fail
   | none=>.fail
  | _,_,_=>.fail
 | .alloc t=>match tyOf E t with
  | some ti=>.ret (.one (.ptr os.length 0),[.box (z1n ti.ty)])
  | none=>.fail
 | .box t x=>match tyOf E t,(ρ x).leaves with
  | some ti,some (_,ls)=>if ls.length==ti.ty.size&&ls.all Leaf.known then .ret (.one (.ptr os.length 0),[.box ls]) else .fail
  | _,_=>.fail
 | .makeFunc (.func f) first caps=>
  if first.size==0 then
   match caps.toList.mapM (fun x=>y1t (ρ x).leaf) with
   | some cs=>ret1 (.one (.fn f cs))
   | none=>.fail
  else .fail
 | .nilCheck x=>match (ρ x).leaf with
  | .ptr l off=>ret1 (.one (.ptr l off))
  | .oela l i off=>ret1 (.one (.oela l i off))
  | .ela t xs i off L=>ret1 (.one (.ela t xs i off L))
  | .oel2 l i off j o2=>ret1 (.one (.oel2 l i off j o2))
  | _=>.fail
 | .slice T x lo hi none=>zsg (z5d E.views (z7b E T) (szIs (z3b E T)) ρ os (ρ x) lo hi)
 | .convert src dst x=>match tyOf E src,tyOf E dst,(ρ x).leaf with
  | some { td:=.data,ty:=.int _,.. },some { td:=.data,ty:=.int k,.. },.val (.int _) n _=>ret1 (vint k (k.wrap n))
  | some { td:=.slice e,.. },some { td:=.data,ty:=.str,.. },c=>match tyOf E e with
   | some { td:=.data,ty:=.int .u8,.. }=>match z3d os c with
    | some (.int .u8)=>match z08 os (.int .u8) c with
     | some (xs,_)=>ret1 (vstr (zza xs))
     | none=>.fail
    | _=>.fail
   | _=>.fail
  | _,_,_=>.fail
 | .call c=>match c.callee with
  | .builtin .len=>match c.args.toList,c.argTypes.toList with
   | [x],[T]=>match zqs (z7b E T) (z88 E T) os (ρ x) with
    | some n=>ret1 (vint .i64 n)
    | none=>.fail
   | _,_=>.fail
  | .builtin .max=>match c.args.toList.map fun x=>(ρ x).leaf with
   | [.val (.int k) a _,.val (.int j) b _]=>if znd k j then ret1 (vint k (if (a:Int)<b then b else a)) else .fail
   | _=>.fail
  | .builtin .min=>match c.args.toList.map fun x=>(ρ x).leaf with
   | [.val (.int k) a _,.val (.int j) b _]=>if znd k j then ret1 (vint k (if (b:Int)<a then b else a)) else .fail
   | _=>.fail
  | .value f=>match (ρ f).leaf with
   | .fn g []=>match z4i E.sig g with
    | some s=>if s.ins.any PIn.isMut then .fail else ztf (z1s E.imm o.dst) cb os s (c.args.toList.map ρ)
    | none=>.fail
   | .clo gs r p=>zpd os gs r p (c.args.toList.map ρ)
   | _=>.fail
  | _=>.fail
 | _=>.fail
def zdb {α:Type} (p:α→Option Bool):List α→Option (List α)
 | []=>some []
 | x::r=>match p x with
  | some b=>match zdb p r with
   | some ys=>some (if b then ys else x::ys)
   | none=>none
  | none=>none
def z4x (n:Nat) (m:Nat→Nat→Int) (i j:Nat):Bool:=decide (m (min i (n - 1)) (min j (n - 1))<0)
def z2w (n:Nat) (m:Nat→Nat→Int):List Nat:=(Go.Sort.pdq (z4x n m) (List.range n).toArray 0 n (Go.Lib.bitLen n) true true).toList
def z4m {α:Type} (p:α→α→Option Int) (xs:List α) (i j:Nat):Int:=match xs[i]?,xs[j]? with
 | some x,some y=>(p x y).getD 0
 | _,_=>0
def zfv {α:Type} (p:α→α→Option Int) (x y:α):Bool:=decide ((p x y).getD 0<0)
def zn3 {α:Type} (p:α→α→Option Int) (xs:List α):Bool:=
 decide (xs.length<4611686018427387904)&&xs.all fun x=>!zfv p x x&&xs.all fun y=>(p x y).isSome&&xs.all fun z=>(!(zfv p x y&&zfv p y z)||zfv p x z)&&(zfv p x y||zfv p y z||!zfv p x z)
def zab {α:Type} (p:α→α→Option Int) (xs:List α):Option (List α):=
 if zn3 p xs then some ((z2w xs.length (z4m p xs)).filterMap fun i=>xs[i]?) else none
def zqe (cb:CB) (os:Objs) (gs:List (Bool×Ty)) (r:Ty):SV→Option (zca gs→Option r.den)
 | .one (.fn g caps)=>some (cb g caps os gs r)
 | .one (.clo gs' r' p)=>if h:gs'=gs∧r'=r then some (h.1▸h.2▸p) else none
 | _=>none
def y0r (cb:CB) (os:Objs) (ri:RInfo) (t:Ty) (xs:List t.den) (args:List SV):Tree (List t.den):=
 match ri.k,args with
 | .filter,[c]=>match zqe cb os [(ri.ag,t)] .bool c with
  | some p=>.bind (zdb (fun x=>p (x,())) xs) .ret
  | none=>.fail
 | .cut,[i,j]=>match i.leaf,j.leaf with
  | .val (.int .i64) i _,.val (.int .i64) j _=>.need (decide (0≤(i:Int))) (.need (decide ((i:Int)≤(j:Int))) (.need (decide ((j:Int)≤xs.length)) (.ret (xs.take (i:Int).toNat++xs.drop (j:Int).toNat))))
  | _,_=>.fail
 | .sort,[c]=>match zqe cb os [(ri.ag,t),(ri.ag,t)] (.int .i64) c with
  | some p=>.bind (zab (fun x y=>p (x,(y,()))) xs) .ret
  | none=>.fail
 | _,_=>.fail
def RK.hands:RK→Bool
 | .cut=>false
 | .filter=>true
 | .sort=>true
def RK.keeps:RK→Bool
 | .sort=>true
 | _=>false
def cutT (okT:Ty→Bool) (st:St) (d:Option Tmp) (l:Nat) (lo hi:Option Operand):Tree St:=
 if Nat.blt l st.ro||Nat.blt l st.fx then .fail else
 match obj st.objs l with
 | .row e t xs dp L=>if okT t then match bnd st.ev 0 lo,bnd st.ev (xs.length:Int) hi with
  | some i,some j=>.need (decide (0≤j)) (.need (decide (j≤xs.length)) (.need (decide (0≤i)) (.need (decide (i≤j)) (match st.kill true l with
   | some st1=>.ret (({ st1 with objs:=st1.objs.set l (.row e t ((xs.take j.toNat).drop i.toNat) dp L) }).put d (.one (.own l)))
   | none=>.fail))))
  | _,_=>.fail
  else .fail
 | _=>.fail
def zrg (okT:Ty→Bool) (st:St) (d:Option Tmp) (l:Nat) (lo:Option Operand) (hi mx:Operand):Tree St:=
 if Nat.blt l st.ro||Nat.blt l st.fx then .fail else
 match obj st.objs l with
 | .row e t xs dp L=>if okT t then match bnd st.ev 0 lo,bnd st.ev 0 (some hi),bnd st.ev 0 (some mx) with
  | some i,some j,some m=>.need (decide (m≤xs.length)) (.need (decide (0≤i)) (.need (decide (i≤j)) (.need (decide (j≤m)) (match st.kill true l with
   | some st1=>.ret (({ st1 with objs:=st1.objs.set l (.row e t ((xs.take j.toNat).drop i.toNat) dp L) }).put d (.one (.own l)))
   | none=>.fail))))
  | _,_,_=>.fail
  else .fail
 | _=>.fail
def rowT (cb:CB) (st:St) (d:Option Tmp) (ri:RInfo):List SV→Tree St
 | .one (.own l)::r=>if Nat.blt l st.ro||Nat.blt l st.fx||(ri.k.hands&&!Nat.beq st.fx 0) then .fail else
  match obj st.objs l with
  | .row e t xs deep L=>if e==ri.e&&t.size==ri.size&&Nat.blt 0 t.size&&(ri.ag||Nat.beq t.size 1) then
   match st.kill true l with
   | some st1=>match (if ri.k.keeps then st.kill false l else some st1) with
    | some st2=>(y0r cb (st1.objs.set l .dead) ri t xs r).map fun ys=>({ st2 with objs:=st2.objs.set l (.row e t ys deep L) }).put d (if ri.k.keeps then .tup [] else .one (.own l))
    | none=>.fail
   | none=>.fail
   else .fail
  | _=>.fail
 | _=>.fail
def zuc (st:St) (d:Option Tmp) (ri:RInfo) (l:Nat) (i j:Leaf):Tree St:=
 if Nat.blt l st.ro||Nat.blt l st.fx then .fail else
 match obj st.objs l,i,j with
 | .hol e t ys,.val (.int .i64) i _,.val (.int .i64) j _=>if e==ri.e&&(t.size==ri.size&&(Nat.blt 0 t.size&&(ri.ag||Nat.beq t.size 1))) then .bind (holD ys i j) fun zs=>match st.kill true l with
   | some st1=>.ret (({ st1 with objs:=st1.objs.set l (.row e t zs true []) }).put d (.one (.own l)))
   | none=>.fail
  else .fail
 | _,_,_=>.fail
def z57 (E:Env) (cb:CB) (st:St) (o:Oper):Option (Tree St):=
 match o.op with
 | .store t a x=>some (match o.dst,tyOf E t with
  | none,some ti=>Tree.ofOpt (z8f st ti (st.ev a).leaf (st.ev x))
  | _,_=>.fail)
 | .buildSlice t n parts=>match tyOf E t with
  | some { td:=.slice e,.. }=>match tyOf E e with
   | some ti=>match z2x ti.ty st.objs true (parts.toList.map fun p=>(p.1,st.ev p.2)) 0 with
    | some (xs,m::M)=>if E.brw||!(m::M).all (fun k=>!Nat.blt k st.ro&&!Nat.blt k st.fx) then none else some (if decide (n*ti.ty.size≤16777216)&&Nat.blt 0 ti.ty.size&&n==parts.toList.length&&!Nat.blt st.objs.length st.ro&&!Nat.blt st.objs.length st.fx then
     match ({ st with objs:=st.objs++[AObj.row e ti.ty [] true []] }).move (m::M) true st.objs.length with
     | some st'=>.ret (({ st' with objs:=(z0n (m::M) st'.objs).set st.objs.length (.row e ti.ty xs true []) }).put o.dst (.one (.own st.objs.length)))
     | none=>.fail else .fail)
    | _=>none
   | none=>none
  | _=>none
 | .call c=>match c.callee with
  | .builtin .append=>some (match c.args.toList,c.argTypes.toList with
   | [s,x],[t,u]=>if t==u then match tyOf E t with
    | some { td:=.slice e,.. }=>match tyOf E e with
     | some ti=>match (st.ev s).leaf with
      | .own l=>zdi st o.dst e ti l (st.ev x).leaf
      | .nilS=>zdi { st with objs:=st.objs++[AObj.row e ti.ty [] true []] } o.dst e ti st.objs.length (st.ev x).leaf
      | _=>.fail
     | none=>.fail
    | _=>.fail else .fail
   | _,_=>.fail)
  | .builtin .copy=>some (match c.args.toList,c.argTypes.toList with
   | [y,x],[t,u]=>match tyOf E t with
    | some { td:=.slice e,.. }=>match tyOf E e with
     | some ti=>if ti.ty.size==1 then match y0g st.objs (st.ev y).leaf with
      | some (l,lo,hi)=>zrh st o.dst l lo hi (st.ev x).leaf
      | none=>.fail
      else .fail
     | none=>.fail
    | _=>.fail
   | _,_=>.fail)
  | .value f=>match (st.ev f).leaf with
   | .fn g []=>match z4i E.rfn g with
    | some ri=>some (rowT cb st o.dst ri (c.args.toList.map st.ev))
    | none=>match z4i E.sig g with
     | some s=>if s.ins.any PIn.isMut then some (zrp cb st o.dst s (c.args.toList.map st.ev)) else none
     | none=>none
   | _=>none
  | _=>none
 | .slice T x lo hi none=>match st.ev x,z1s E.rsl o.dst with
  | .one (.own l),true=>some (cutT (szIs (z3b E T)) st o.dst l lo hi)
  | _,_=>none
 | .slice T x lo (some hi) (some mx)=>match st.ev x,z1s E.rsl o.dst with
  | .one (.own l),true=>some (zrg (szIs (z3b E T)) st o.dst l lo hi mx)
  | _,_=>none
 | _=>none
def clsV (E:Env) (ρ:Operand→SV) (o:Oper) (os:Objs):Nat:=
 match os with
 | _::_=>2
 | []=>match o.op with
  | .load _ a=>if (ρ a).leaf.free then 0 else 1
  | .indexAddr _ x _=>if (ρ x).leaf.free then 0 else 1
  | .slice _ x _ _ _=>if (ρ x).leaf.free then 0 else 1
  | .convert _ _ x=>if (ρ x).leaf.free then 0 else 1
  | .call c=>match c.callee with
   | .builtin .len=>if c.args.toList.all (fun x=>(ρ x).leaf.free) then 0 else 1
   | .value f=>match (ρ f).leaf with
    | .fn g []=>match z4i E.sig g with
     | some s=>if s.ins.any PIn.isClo then 2 else if c.args.toList.all (fun x=>(ρ x).free) then 0 else 1
     | none=>2
    | _=>1
   | _=>0
  | _=>0
def z1t (E:Env) (ρ:Operand→SV) (o:Oper):Bool:=
 match o.op with
 | .call c=>match c.callee with
  | .value f=>match (ρ f).leaf with
   | .fn g []=>match z4i E.sig g with
    | some s=>s.ins.any PIn.isClo
    | none=>false
   | .clo _ _ _=>true
   | _=>false
  | _=>false
 | _=>false
def Leaf.firm:Leaf→Bool
 | .undef | .skip=>false
 | _=>true
def Leaf.on:Leaf→List Nat
 | .val _ _ L | .ela _ _ _ _ L=>L
 | .sub k _ _ | .oel2 k _ _ _ _ | .hol k _=>[k]
 | _=>[]
def Leaf.men:Leaf→List Nat
 | .own k | .oela k _ _ | .view k _ _ | .ptr k _=>[k]
 | .fn _ caps=>caps.map (·.1)
 | _=>[]
def Leaf.code (c:Leaf):List Nat:=c.on.map (2*·)++c.men.map (2*·+1)
def z0k (hd:Bool) (W:List Nat):List Nat:=W.flatMap fun l=>if hd then [2*l,2*l+1] else [2*l]
def SV.firm:SV→Bool
 | .one c=>c.firm
 | .agg cs=>cs.all Leaf.firm
 | .tup vs=>vs.all fun p=>p.2.all Leaf.firm
def SV.code:SV→List Nat
 | .one c=>c.code
 | .agg cs=>cs.flatMap Leaf.code
 | .tup vs=>vs.flatMap fun p=>p.2.flatMap Leaf.code
def z0c (W:List Nat):Nat:=W.foldl (fun a l=>a ||| 2 ^ (l+1)) 0
def zeq (ρ:Operand→SV) (o:Oper) (v:SV):List Nat:=v.code++o.op.operands.toList.flatMap fun x=>(ρ x).code
def z3m (ρ:Operand→SV) (o:Oper):Option (Nat×Bool×Bool):=
 match o.op with
 | .load _ a=>match (ρ a).leaf with
  | .ptr l _=>some (l,false,true)
  | .oela l _ _=>some (l,false,false)
  | .oel2 l _ _ _ _=>some (l,false,false)
  | _=>none
 | .indexAddr _ x _=>match (ρ x).leaf with
  | .own l=>some (l,true,true)
  | .sub l _ _=>some (l,false,false)
  | _=>none
 | _=>none
def z3g (p:Nat×Bool×Bool):Nat:=if p.2.1 then 2*p.1+1 else 2*p.1
def mkV (ρ:Operand→SV) (o:Oper) (v:SV) (c:Nat):Nat:=
 if o.op.operands.toList.all (fun x=>(ρ x).firm)&&v.firm then
  match c with
  | 0=>1 ||| z0c (zeq ρ o v)
  | 1=>match z3m ρ o with
   | some p=>(if p.2.2 then 1 else 0) ||| z0c (z3g p::zeq ρ o v)
   | none=>0
  | _=>0
 else 0
def mkS (st:St) (o:Oper) (v:SV) (c:Nat):Nat:=if Nat.beq c 2 then st.objs.length else mkV st.ev o v c
def zmc (os:Objs) (l:Nat) (x:Leaf):Nat:=
 match obj os l with
 | .row e' t _ deep _=>if t.flat then 7+8*z0c (z0k true [l]) else
  match deep,x with
  | true,.nilS=>7+8*z0c (z0k true [l])
  | true,.own m=>match obj os m with
   | .row e2 t2 _ true _=>if e2==e'&&decide (t2=t) then 7+8*z0c (z0k true [m,l]) else 3
   | _=>3
  | _,_=>3
 | _=>3
def wcls (E:Env) (cb:CB) (ρ:Operand→SV) (os:Objs) (o:Oper):Nat:=match o.op with
 | .buildSlice t _ parts=>match tyOf E t with
  | some { td:=.slice e,.. }=>match tyOf E e with
   | some ti=>match z2x ti.ty os true (parts.toList.map fun p=>(p.1,ρ p.2)) 0 with
    | some (_,m::M)=>7+8*z0c (z0k true (m::M++[os.length]))
    | _=>3
   | none=>3
  | _=>3
 | .call c=>match c.callee with
  | .builtin .copy=>4
  | .builtin .append=>match c.args.toList with
   | [s,x]=>match (ρ s).leaf with
    | .own l=>zmc os l (ρ x).leaf
    | _=>3
   | _=>3
  | .value f=>match (ρ f).leaf with
   | .fn g []=>match z4i E.rfn g with
    | some _=>3
    | none=>match z4i E.sig g with
     | some s=>match z05 cb os s.ins (c.args.toList.map ρ) with
      | some (_,_,W)=>6+8*z0c (z0k false W)
      | none=>3
     | none=>3
   | _=>3
  | _=>3
 | .store _ a _=>match (ρ a).leaf with
  | .ptr l _=>5+8*z0c (z0k false [l])
  | _=>3
 | _=>3
theorem zns (E:Env) (cb:CB) (ρ:Operand→SV) (os:Objs) (o:Oper):3≤wcls E cb ρ os o % 8:=by
 unfold wcls zmc
 repeat' split
 all_goals omega
def zlf (o:Oper):Bool:=match o.op,o.guard with
 | .move (.tmp _),none=>true
 | _,_=>false
def zht (o:Oper):Bool:=match o.op,o.guard with
 | .move (.tmp _),none=>true
 | .extract (.tmp _) _,none=>true
 | _,_=>false
def z41 (E:Env) (o:Oper):Bool:=o.guard.isNone&&(!z1s E.imm o.dst&&match o.op with
 | .alloc _=>true
 | .buildSlice _ _ parts=>parts.toList.isEmpty
 | .makeSlice _ _ _=>true
 | .call c=>match c.callee with
  | .value (.func g)=>c.args.toList.isEmpty&&(match z4i E.rfn g,z4i E.sig g with
   | none,some s=>s.ins.isEmpty&&(match s.outs with
    | [.deep false (.slice _ _)]=>true
    | _=>false)
   | _,_=>false)
  | _=>false
 | _=>false)
def z1g (E:Env) (o:Oper):Option Nat:=
 match o.dst with
 | some d=>match z4i E.slots d with
  | some l=>if z41 E o then some l else none
  | none=>none
 | none=>none
def zrf (E:Env) (cb:CB) (st:St) (o:Oper) (l:Nat):Tree St:=
 match obj st.objs l with
 | .dead=>if (Nat.blt l st.objs.length&&(!Nat.blt l st.ro&&!Nat.blt l st.fx))&&o.op.operands.toList.all (fun z=>(st.ev z).code.isEmpty) then (z0l E cb st.ev (List.replicate l .dead) o).andThen fun p=>match p with
   | (.one (.own _),[.row e t xs true []])=>.ret (({ st with objs:=st.objs.set l (.row e t xs true []) }).put o.dst (.one (.own l)))
   | (.one (.ptr _ 0),[.box cs])=>if cs.all fun c=>c.code.isEmpty then .ret (({ st with objs:=st.objs.set l (.box cs) }).put o.dst (.one (.ptr l 0))) else .fail
   | _=>.fail
  else .fail
 | _=>.fail
def z6u (E:Env) (cb:CB) (st:St) (o:Oper):Tree (St×Nat):=
 match z57 E cb st o with
 | some t=>t.map fun st'=>(st',wcls E cb st.ev st.objs o)
 | none=>if z1t E st.ev o&&!Nat.beq st.fx 0 then .fail else (z0l E cb st.ev st.objs o).map fun v=>({ st with regs:=z04 st.regs o.dst v.1,objs:=st.objs++v.2 },clsV E st.ev o v.2+8*mkS st o v.1 (clsV E st.ev o v.2))
def step (E:Env) (cb:CB) (st:St) (o:Oper):Tree (St×Nat):=
 match z1g E o with
 | some l=>(zrf E cb st o l).map fun st'=>(st',7+8*z0c (z0k true [l]))
 | none=>z6u E cb st o
def y6l (ops:List Oper) (i:Nat):Bool:=ops.any fun o=>match o.guard with | some (j,_)=>j==i | none=>false
def z1a (ops:List Oper) (st:St) (o:Oper):Option Bool:=
 match o.guard with
 | none=>some true
 | some (j,want)=>match ops[j]? with
  | some p=>match p.dst with
   | some d=>match st.reg d with
    | .one (.val .bool b _)=>some (b==want)
    | .one .skip=>some false
    | _=>none
   | none=>none
  | none=>none
def split {ρ:Type} (src:Bool) (st:St) (d:Option Tmp) (K:St→Option ρ):Option ρ:=
 if src then match d with
  | some t=>match st.reg t with
   | .one (.val .bool b L)=>if b then K (st.put d (.one (.val .bool true L))) else K (st.put d (.one (.val .bool false L)))
   | _=>K st
  | none=>K st
 else K st
def zu9 {α:Type} (n:Nat) (K:Nat→α):α:=
 match n with
 | 0=>K 0
 | n+1=>K (n+1)
theorem zr9 {α:Type} (n:Nat) (K:Nat→α):zu9 n K=K n:=by cases n<;>rfl
abbrev Pend:=Nat×Int×Nat
def zwg (E:Env) (t:TypeId):Option (TypeId×TI):=match tyOf E t with
 | some { td:=.slice e,.. }=>match tyOf E e with
  | some ti=>some (e,ti)
  | none=>none
 | _=>none
def zuh (st:St) (e:TypeId) (ti:TI) (l:Nat) (i:Int) (off m:Nat):Tree St:=
 if Nat.blt l st.ro||(Nat.blt l st.fx||(Nat.blt m st.ro||(Nat.blt m st.fx||Nat.beq l m))) then .fail else
 match obj st.objs l,obj st.objs m with
 | .row e1 t xs true L,.row e2 u zs true _=>match z18 t (rd xs i t.zero) off with
  | some ⟨.slice e' u',ys⟩=>match zfc u u' zs with
   | some zs'=>if e'==e&&(e2==e&&(u'.size==ti.ty.size&&(Nat.blt 0 u'.size&&Nat.blt 0 ti.bytes))) then
     .need (decide ((List.length ys+zs.length)*ti.bytes≤140737488355328)) (match z2m t (rd xs i t.zero) off (.slice e' u') (ys++zs') with
      | some z=>match st.move [m] false l with
       | some st1=>.ret { st1 with objs:=(z0n [m] st1.objs).set l (.row e1 t (xs.set i.toNat z) true L) }
       | none=>.fail
      | none=>.fail)
    else .fail
   | none=>.fail
  | _=>.fail
 | _,_=>.fail
def appT (E:Env) (st:St) (o:Oper):Tree (St×Pend):=
 match o.op with
 | .call c=>match c.callee,c.args.toList,c.argTypes.toList with
  | .builtin .append,[s,x],[t,u]=>if t==u then match zwg E t,(st.ev s).leaf,(st.ev x).leaf with
    | some (e,ti),.sub l i off,.own m=>(zuh st e ti l i off m).map fun st'=>(st'.put o.dst (.one (.sub l i off)),(l,i,off))
    | _,_,_=>.fail
   else .fail
  | _,_,_=>.fail
 | _=>.fail
def zdx (st:St) (o:Oper):Nat:=
 match o.op with
 | .call c=>match c.args.toList with
  | [s,x]=>match (st.ev s).leaf,(st.ev x).leaf with
   | .sub l _ _,.own m=>3+8*z0c (z0k false [l]++z0k true [m])
   | _,_=>3
  | _=>3
 | _=>3
def zgv (E:Env) (st:St) (o:Oper) (p:Pend):Tree St:=
 match o.op with
 | .store t a x=>match o.dst,tyOf E t,(st.ev a).leaf,st.ev x with
  | none,some ti,.oela l i off,.one (.sub l2 i2 off2)=>if l==p.1&&(l2==p.1&&(off==p.2.2&&(off2==p.2.2&&ti.ty.size==1))) then .need (decide (i=p.2.1)) (.need (decide (i2=p.2.1)) (.ret st)) else .fail
  | _,_,_,_=>.fail
 | _=>.fail
def zpg (o:Oper):Bool:=match o.op with
 | .move _ | .fieldAddr _ _ _ | .nilCheck _=>true
 | _=>false
def zpf (o:Oper):Bool:=match o.op with
 | .load _ _ | .indexAddr _ _ _=>true
 | _=>false
def z3i (o:Oper):Bool:=o.guard.isNone&&zpg o
def z3h (o:Oper):Bool:=o.guard.isNone&&zpf o
def z5y (st:St) (o:Oper):Bool:=match o.op with
 | .move _=>true
 | .fieldAddr _ _ _=>true
 | .nilCheck _=>true
 | .load _ a=>match (st.ev a).leaf with
  | .ptr _ _=>true
  | _=>false
 | .indexAddr _ x _=>match (st.ev x).leaf with
  | .own _=>true
  | _=>false
 | _=>false
def zh8 {ρ:Type} (E:Env) (cb:CB) (ops:List Oper):Nat→List Oper→List Nat→St→Option Pend→(List Nat→St→Option ρ)→Option ρ
 | _,[],cls,st,pd,K=>match pd with
  | none=>K cls st
  | some _=>none
 | i,o::r,cls,st,pd,K=>match (match pd with | none=>!z1s E.app o.dst | some _=>z5y st o) with
  | true=>match z1a ops st o with
   | some true=>(step E cb st o).run fun st'=>zu9 st'.2 fun c=>split (y6l ops i) st'.1 o.dst fun st''=>zh8 E cb ops (i+1) r (cls++[c]) st'' pd K
   | some false=>zh8 E cb ops (i+1) r (cls++[0]) (st.put o.dst (.one .skip)) pd K
   | none=>none
  | false=>match o.guard with
   | some _=>none
   | none=>match pd with
    | none=>(appT E st o).run fun s=>zu9 (zdx st o) fun c=>zh8 E cb ops (i+1) r (cls++[c]) s.1 (some s.2) K
    | some p=>(zgv E st o p).run fun st'=>zh8 E cb ops (i+1) r (cls++[3]) st' none K
def z16 (ops:List Oper) (o:Oper):List Tmp:=
 (o.op.operands.toList.filterMap fun | .tmp t=>some t | _=>none) ++
 (match o.guard with
  | some (g,_)=>((ops[g]?).bind (·.dst)).toList
  | none=>[])
def z3o (l:List Nat):Option Tmp→Bool
 | some d=>has l d
 | none=>false
def zf0 (E:Env) (o:Oper):Bool:=(z1g E o).isSome
def zot (E:Env) (o:Oper):Bool:=zf0 E o||(match o.op,o.guard with
 | .slice _ _ _ _ (some _),none=>true
 | _,_=>false)
def zi1 (E:Env) (o:Oper):Bool:=match o.op with
 | .call c=>match c.callee with
  | .value (.func g)=>match z4i E.sig g with
   | some s=>s.ins.all fun p=>!p.isClo
   | none=>false
  | _=>false
 | _=>false
def zpx (ops:List Oper) (x y:Oper):Bool:=
 !z3o (z16 ops y) x.dst&&!z3o (z16 ops x) y.dst&&!z3o x.dst.toList y.dst
def zl6 (b0 b1:Bool) (c:Nat):Bool:=c / 8 != 0&&((b0&&c % 8==0)||(b1&&(c % 8==1&&(c / 8) % 2==1)))
def zrn (mv pk al ix iy b0 b1 gx gy fx fy:Bool) (cx cy:Nat):Bool:=
 match cx % 8,cy % 8 with
 | 0,3 | 1,3=>zl6 b0 b1 cx&&((cx / 8) &&& (cy / 8))==0
 | 3,0 | 3,1=>zl6 b0 b1 cy&&((cx / 8) &&& (cy / 8))==0
 | 0,0 | 0,1 | 0,2 | 1,0 | 1,1 | 1,2 | 2,0=>true
 | 0,4=>mv&&cy==4&&Nat.ble (cx / 8) 1
 | 2,7=>al&&Nat.blt (cy / 8) (2 ^ (2*(cx / 8)+1))
 | 2,1=>cy / 8 != 0&&Nat.blt (cy / 8) (2 ^ (2*(cx / 8)+1))
 | 0,5=>(pk&&cx / 8==0)||(gx&&(cx / 8 != 0&&((cx / 8) &&& (cy / 8))==0))
 | 1,6=>(gx&&(!ix||((cx / 8 / 2) &&& (cy / 8))==0))&&(cx / 8 != 0&&((cx / 8) &&& (cy / 8))==0)
 | 1,5 | 0,6 | 0,7 | 1,7=>gx&&(cx / 8 != 0&&((cx / 8) &&& (cy / 8))==0)
 | 6,7=>al&&((cx / 8) &&& (cy / 8))==0
 | 7,7=>fy&&(fx&&((cx / 8) &&& (cy / 8))==0)
 | 7,5=>fx&&(gy&&((cx / 8) &&& (cy / 8))==0)
 | 3,7=>fx&&fy
 | 6,1=>(gy&&(!iy&&(cy / 8) % 2==1))&&(cy / 8 != 0&&((cx / 8) &&& (cy / 8))==0)
 | 5,0 | 6,0 | 7,0 | 5,1 | 7,1=>gy&&(cy / 8 != 0&&((cx / 8) &&& (cy / 8))==0)
 | _,_=>false
def isIx (o:Oper):Bool:=match o.op with
 | .indexAddr _ _ _=>true
 | _=>false
def midK (E:Env) (k:Oper→Bool) (x y:Oper):Bool:=(z1s E.app y.dst&&(k x&&!z1s E.app x.dst))||(z1s E.app x.dst&&(k y&&!z1s E.app y.dst))
def zgk (E:Env) (ops:List Oper) (x y:Oper) (cx cy:Nat):Bool:=
 zpx ops x y&&zrn (zlf x) (zht x) (zf0 E y&&zi1 E x) (isIx x) (isIx y) (midK E z3i x y) (midK E z3h x y) x.guard.isNone y.guard.isNone (zot E x) (zf0 E y) cx cy
def z2g (ops:List Oper):List Nat:=
 ops.foldl (fun acc o=>acc++[o.after.toList.foldl (fun s e=>if Region.binds .any e then s ||| 2 ^ e.on ||| acc.getD e.on 0 else s) 0]) []
def y0z (ops:List Oper):Bool:=
 (List.range ops.length).all fun j=>match ops[j]? with
  | some o=>o.after.toList.all fun e=>!Region.binds .any e||Nat.blt e.on j
  | none=>true
def zwc (ops:List Oper):Bool:=
 (List.range ops.length).all fun j=>(List.range j).all fun i=>
  ((z2g ops).getD j 0).testBit i||(match ops[i]?,ops[j]? with
   | some x,some y=>zpx ops x y
   | _,_=>false)
def zlw (E:Env) (ops:List Oper):List (Nat×Nat×Bool×Bool×Bool×Bool×Bool×Bool×Bool×Bool×Bool×Bool×Bool):=
 (List.range ops.length).flatMap fun j=>(List.range j).filterMap fun i=>if ((z2g ops).getD j 0).testBit i then none else match ops[i]?,ops[j]? with
  | some x,some y=>some (i,j,zlf x,zht x,zf0 E y&&zi1 E x,isIx x,isIx y,midK E z3i x y,midK E z3h x y,x.guard.isNone,y.guard.isNone,zot E x,zf0 E y)
  | _,_=>none
def zyi (E:Env) (ops:List Oper) (cls:List Nat):Bool:=
 y0z ops&&(zwc ops&&(zlw E ops).all fun (i,j,a,b,c,d,e,f,g,h,k,m,n)=>zrn a b c d e f g h k m n (cls.getD i 3) (cls.getD j 3))
def zsa (E:Env):List Oper→Nat→List (Nat×Nat)
 | [],_=>[]
 | o::r,n=>match o.dst,z41 E o with
  | some d,true=>(d,n)::zsa E r (n+1)
  | _,_=>zsa E r n
def zo8 {ρ:Type} (E:Env) (cb:CB) (ops front:List Oper) (st:St) (K:St→Option ρ):Option ρ:=
 zh8 E cb ops 0 front [] st none fun cls st'=>if zyi E ops cls then K st' else none
def zi9 {ρ:Type} (E:Env) (cb:CB) (ops front:List Oper) (st:St) (K:St→Option ρ):Option ρ:=
 match E.res with
 | false=>zo8 E cb ops front st K
 | true=>zu9 st.objs.length fun n=>match zsa E front n with
  | []=>zo8 E cb ops front st K
  | p::r=>zo8 { E with slots:=p::r } cb ops front { st with objs:=st.objs++(p::r).map fun _=>AObj.dead } K
def zw1 (E:Env) (ops:List Oper):Bool:=
 match ops.getLast? with
 | some o=>o.guard.isNone&&((match o.op with
  | .call c=>match c.callee with
   | .value (.func g)=>has E.inl g
   | _=>false
  | _=>false)&&(Nat.blt 1 ops.length&&Nat.beq ((z2g ops).getD (ops.length - 1) 0) (2 ^ (ops.length - 1) - 1)))
 | none=>false
@[reducible] def zgl:List Leaf→Type
 | []=>Unit
 | .val t _ _::r=>t.den×zgl r
 | .clo gs s _::r=>(zca gs→Option s.den)×zgl r
 | _::r=>zgl r
def za1:(ls:List Leaf)→zgl ls
 | []=>()
 | .val _ x _::r=>(x,za1 r)
 | .clo _ _ p::r=>(p,za1 r)
 | .hol _ _::r | .undef::r | .skip::r | .nilS::r | .own _::r | .sub _ _ _::r | .ptr _ _::r | .ela _ _ _ _ _::r | .oela _ _ _::r | .view _ _ _::r | .oel2 _ _ _ _ _::r | .fn _ _::r=>za1 r
def z48:(ls:List Leaf)→zgl ls→List Leaf
 | [],_=>[]
 | .val t _ L::r,d=>.val t d.1 L::z48 r d.2
 | .clo a s _::r,d=>.clo a s d.1::z48 r d.2
 | .nilS::r,d=>.nilS::z48 r d
 | .own l::r,d=>.own l::z48 r d
 | .ptr l o::r,d=>.ptr l o::z48 r d
 | .fn f cs::r,d=>.fn f cs::z48 r d
 | .hol l .hd::r,d=>.hol l .hd::z48 r d
 | .hol _ (.pl _)::r,d | .hol _ (.el _)::r,d | .undef::r,d | .skip::r,d | .sub _ _ _::r,d | .ela _ _ _ _ _::r,d | .oela _ _ _::r,d | .view _ _ _::r,d | .oel2 _ _ _ _ _::r,d=>.undef::z48 r d
def zz2 (n:Nat) (L:List Nat):List Nat:=L.filter fun k=>Nat.blt k n
def z1z (n:Nat):(ls ms:List Leaf)→Option (zgl ls)
 | [],[]=>some ()
 | .val t _ L::r,.val s y M::q=>if L==M||(zz2 n M).all (has L) then match Ty.cast s t y with
  | some z=>match z1z n r q with
   | some d=>some (z,d)
   | none=>none
  | none=>none else none
 | .clo a b _::r,.clo a' b' p::q=>if h:a'=a∧b'=b then match z1z n r q with
  | some d=>some (h.1▸h.2▸p,d)
  | none=>none else none
 | .nilS::r,.nilS::q=>z1z n r q
 | .own l::r,.own m::q=>if l==m then z1z n r q else none
 | .ptr l o::r,.ptr m p::q=>if l==m&&o==p then z1z n r q else none
 | .fn f cs::r,.fn g ds::q=>if f==g&&cs==ds then z1z n r q else none
 | .hol l .hd::r,.hol m .hd::q=>if l==m then z1z n r q else none
 | .hol _ (.pl _)::r,_::q | .hol _ (.el _)::r,_::q | .undef::r,_::q | .skip::r,_::q | .sub _ _ _::r,_::q | .ela _ _ _ _ _::r,_::q | .oela _ _ _::r,_::q | .view _ _ _::r,_::q | .oel2 _ _ _ _ _::r,_::q=>z1z n r q
 | _,_=>none
@[reducible] def z5r:Objs→Type
 | []=>Unit
 | .box cs::r=>zgl cs×z5r r
 | .row _ t _ _ _::r=>List t.den×z5r r
 | .hol _ t _::r=>List (Option t.den)×z5r r
 | .dead::r=>z5r r
def z9z:(os:Objs)→z5r os
 | []=>()
 | .box cs::r=>(za1 cs,z9z r)
 | .row _ _ xs _ _::r=>(xs,z9z r)
 | .hol _ _ ys::r=>(ys,z9z r)
 | .dead::r=>z9z r
def z0v:(os:Objs)→z5r os→Objs
 | [],_=>[]
 | .box cs::r,d=>.box (z48 cs d.1)::z0v r d.2
 | .row e t _ deep L::r,d=>.row e t d.1 deep L::z0v r d.2
 | .hol e t _::r,d=>.hol e t d.1::z0v r d.2
 | .dead::r,d=>.dead::z0v r d
def z0w (n:Nat):(os ps:Objs)→Option (z5r os)
 | [],_=>some ()
 | .box cs::r,.box ds::q=>match z1z n cs ds with
  | some x=>match z0w n r q with
   | some y=>some (x,y)
   | none=>none
  | none=>none
 | .row e t _ b L::r,.row f s ys c M::q=>if e==f&&b==c&&(L==M||(zz2 n M).all (has L)) then match zfc s t ys with
  | some x=>match z0w n r q with
   | some y=>some (x,y)
   | none=>none
  | none=>none else none
 | .hol e t _::r,.hol f s ys::q=>if e==f then match zvi s t ys with
  | some x=>match z0w n r q with
   | some y=>some (x,y)
   | none=>none
  | none=>none else none
 | .dead::r,.dead::q=>z0w n r q
 | _,_=>none
def z0x (live:List Nat):Nat→List SV→List Leaf
 | _,[]=>[]
 | i,v::r=>(if has live i then v.leaf else .undef)::z0x live (i+1) r
def z0i {α ρ:Type}:Nat→((α→Option ρ)→α→Option ρ)→α→Option ρ
 | 0,_,_=>none
 | n+1,body,x=>body (z0i n body) x
inductive Ex where
 | normal | exit (id:Nat) | ret
def zf4 (live:List Nat) (st:St) (d:zgl (z0x live 0 st.regs++st.frm)×z5r st.objs):St:=
 {st with regs:=((z48 (z0x live 0 st.regs++st.frm) d.1).take st.regs.length).map .one,objs:=z0v st.objs d.2,frm:=(z48 (z0x live 0 st.regs++st.frm) d.1).drop st.regs.length }
abbrev INL:=(ρ:Type)→FuncId→List (Nat×Nat)→List SV→St→(SV→St→Option ρ)→Option ρ
def zxk (E:Env) (st:St) (o:Oper):Option (FuncId×List (Nat×Nat)×List SV):=
 match o.op with
 | .call c=>match c.callee with
  | .value f=>match (st.ev f).leaf with
   | .fn g caps=>if has E.inl g then some (g,caps,c.args.toList.map st.ev) else none
   | _=>none
  | _=>none
 | _=>none
def zkv (E:Env) (st:St) (o:Oper):Option St:=
 match o.op with
 | .alloc t=>match o.dst with
  | some d=>match (st.reg d).leaf with
   | .ptr l 0=>match obj st.objs l,tyOf E t with
    | .box _,some ti=>if !Nat.blt l st.ro&&!Nat.blt l st.fx then match st.kill true l with
      | some st'=>some (({ st' with objs:=st'.objs.set l (.box (z1n ti.ty)) }).put (some d) (.one (.ptr l 0)))
      | none=>none
     else none
    | _,_=>none
   | _=>none
  | none=>none
 | _=>none
noncomputable def zyq {ρ:Type} (a b:Option ρ):Option ρ:=open Classical in if a=b then a else none
def zx6 (E:Env) (st:St) (o:Oper):Option (Bool×Option Bool):=
 match o.op with
 | .binOp op t x y _=>if z88 E t then match st.ev y,op with
  | .one .nilS,.eql=>match (st.ev x).leaf with
   | .nilS=>some (false,none)
   | c=>match z3d st.objs c with
    | some s=>match z08 st.objs s c with
     | some (xs,_)=>some (false,some xs.isEmpty)
     | none=>none
    | none=>none
  | .one .nilS,.neq=>match (st.ev x).leaf with
   | .nilS=>some (true,none)
   | c=>match z3d st.objs c with
    | some s=>match z08 st.objs s c with
     | some (xs,_)=>some (true,some xs.isEmpty)
     | none=>none
    | none=>none
  | _,_=>none
  else none
 | _=>none
def SV.killReg (l:Nat):SV→SV
 | .one (.sub k i off)=>.one (.sub k i off)
 | v=>v.kill false l
def zkg (cb:CB) (st:St) (d:Option Tmp) (ri:RInfo) (l:Nat) (i:Int) (off:Nat) (c:SV):Tree St:=
 if Nat.blt l st.ro||(Nat.blt l st.fx||!Nat.beq st.fx 0) then .fail else
 match obj st.objs l with
 | .row e t xs true L=>match z18 t (rd xs i t.zero) off with
  | some ⟨.slice e' u,ys⟩=>if e'==ri.e&&(u.size==ri.size&&(Nat.blt 0 u.size&&((ri.ag||Nat.beq u.size 1)&&u.flat))) then match st.kill true l,st.kill false l with
   | some st1,some st2=>match zqe cb (st1.objs.set l .dead) [(ri.ag,u),(ri.ag,u)] (.int .i64) c with
    | some p=>.bind (zab (fun x y=>p (x,(y,()))) ys) fun zs=>match z2m t (rd xs i t.zero) off (.slice e' u) zs with
     | some z=>.ret (({ st2 with regs:=st.regs.map (SV.killReg l),objs:=st2.objs.set l (.row e t (xs.set i.toNat z) true L) }).put d (.tup []))
     | none=>.fail
    | none=>.fail
   | _,_=>.fail
   else .fail
  | _=>.fail
 | _=>.fail
def zy0 (E:Env) (cb:CB) (st:St) (o:Oper):Option (Tree St):=
 match o.op with
 | .buildSlice _ _ parts=>if z1s E.hol o.dst then some (match parts.toList with
  | [(0,.tmp r)]=>(st.splitHol r).andThen fun st2=>(step E cb st2 o).map (·.1)
  | _=>.fail) else none
 | .call c=>match c.callee with
  | .value f=>match (st.ev f).leaf with
   | .fn g []=>match z4i E.rfn g with
    | some ri=>match ri.k,c.args.toList.map st.ev with
     | .cut,[.one (.hol l .hd),i,j]=>some (zuc st o.dst ri l i.leaf j.leaf)
     | .sort,[.one (.sub l i off),c]=>some (zkg cb st o.dst ri l i off c)
     | _,_=>none
    | none=>none
   | _=>none
  | _=>none
 | _=>none
noncomputable def z73 {ρ:Type} (E:Env) (cb:CB) (inl:INL) (ops:List Oper):Nat→List Oper→St→(St→Option ρ)→Option ρ
 | _,[],st,K=>K st
 | i,o::r,st,K=>match z1a ops st o with
  | some true=>match zxk E st o with
   | some (g,caps,args)=>inl ρ g caps args st fun v st'=>z73 E cb inl ops (i+1) r (st'.put o.dst v) K
   | none=>match zkv E st o with
    | some st'=>z73 E cb inl ops (i+1) r st' K
    | none=>match zx6 E st o with
    | some (neg,none)=>z73 E cb inl ops (i+1) r (st.put o.dst (zbu (!neg))) K
    | some (neg,some emp)=>if emp then zyq (z73 E cb inl ops (i+1) r (st.put o.dst (zbu true)) K) (z73 E cb inl ops (i+1) r (st.put o.dst (zbu false)) K)
     else z73 E cb inl ops (i+1) r (st.put o.dst (zbu neg)) K
    | none=>match zy0 E cb st o with
    | some t=>t.run fun st'=>z73 E cb inl ops (i+1) r st' K
    | none=>(step E cb st o).run fun st'=>split (y6l ops i) st'.1 o.dst fun st''=>z73 E cb inl ops (i+1) r st'' K
  | some false=>z73 E cb inl ops (i+1) r (st.put o.dst (.one .skip)) K
  | none=>none
def ze5 (st:St):Spot→Leaf
 | .r i=>(st.reg i).leaf
 | .f i=>st.frm.getD i .undef
 | .b l k=>match obj st.objs l with
  | .box cs=>cs.getD k .undef
  | _=>.undef
def z9i (st:St) (c:Leaf):Spot→St
 | .r i=>{ st with regs:=st.regs.set i (.one c) }
 | .f i=>{ st with frm:=st.frm.set i c }
 | .b l k=>match obj st.objs l with
  | .box cs=>{ st with objs:=st.objs.set l (.box (cs.set k c)) }
  | _=>st
def y07 (st:St) (s:Spot) (e:TypeId) (t:Ty):Option St:=
 match ze5 st s with
 | .nilS=>some (z9i st (.val (.slice e t) [] []) s)
 | .own m=>match st.frzLs [m] [.own m] with
  | some ([d],st')=>some (z9i st' d s)
  | _=>none
 | _=>some st
def zxf (st:St) (s:Spot) (L:List Nat):Option St:=
 match ze5 st s with
 | .val t x M=>some (z9i st (.val t x (M++L)) s)
 | _=>none
def z1b (st:St) (l k:Nat) (e:TypeId) (t:Ty) (d:Bool) (L:List Nat):Option St:=
 match obj st.objs l with
 | .box cs=>match cs[k]? with
  | some .nilS=>some { st with objs:=(st.objs++[AObj.row e t [] d L]).set l (.box (cs.set k (.own st.objs.length))) }
  | _=>none
 | _=>none
def zw0 (st:St) (s:Spot) (c:Nat):Option St:=
 match ze5 st s with
 | .own m=>if m==c then some st else match obj st.objs m,obj st.objs c with
  | .row e t xs d L,.row _ _ _ _ _=>if !Nat.blt c st.ro&&!Nat.blt m st.ro&&!Nat.blt c st.fx&&!Nat.blt m st.fx then match st.killAll true [c,m] with
    | some st'=>some (z9i { st' with objs:=(st'.objs.set c (.row e t xs d L)).set m .dead } (.own c) s)
    | none=>none
   else none
  | _,_=>none
 | _=>none
def zxc (st:St) (s:Spot):Option St:=
 match ze5 st s with
 | .sub l i off=>match obj st.objs l with
  | .row _ t xs true L=>match z18 t (rd xs i t.zero) off with
   | some ⟨.slice e u,x⟩=>some (z9i st (.val (.slice e u) x (l::L)) s)
   | _=>none
  | _=>none
 | _=>none
def zbz:List Adj→St→Option St
 | [],st=>some st
 | .row l k e t d L::ps,st=>match z1b st l k e t d L with
  | some st=>zbz ps st
  | none=>none
 | .loose l L::ps,st=>match st.loosen l L with
  | some st=>zbz ps st
  | none=>none
 | .frz s e t::ps,st=>match y07 st s e t with
  | some st=>zbz ps st
  | none=>none
 | .lean s L::ps,st=>match zxf st s L with
  | some st=>zbz ps st
  | none=>none
 | .take _ _::ps,st=>zbz ps st
 | .drop i::ps,st=>zbz ps { st with frm:=st.frm.set i .undef }
 | .look s::ps,st=>match zxc st s with
  | some st=>zbz ps st
  | none=>none
 | .hole l::ps,st=>match st.toHol l with
  | some st=>zbz ps st
  | none=>none
def z92:List Adj→St→Option St
 | [],st=>some st
 | .frz s e t::ps,st=>match y07 st s e t with
  | some st=>z92 ps st
  | none=>none
 | .take s c::ps,st=>match zw0 st s c with
  | some st=>z92 ps st
  | none=>none
 | _::ps,st=>z92 ps st
noncomputable def cutN {α ρ:Type} (rest:α→Option ρ) (first:(α→Option ρ)→Option ρ):Option ρ:=first rest
def y9u (E:Env):Code→Option (List Nat×List Adj)
 | .seq (.region id _ _) _=>z4i E.cuts id
 | .seq (.seq (.region id _ _) _) _=>z4i E.cuts id
 | .region id _ _=>z4i E.cuts id
 | _=>none
noncomputable def exec {ρ:Type} (N:Nat) (E:Env) (cb:CB) (inl:INL):Code→St→(Ex→St→Option ρ)→Option ρ
 | .skip,st,K=>K .normal st
 | .seq a b,st,K=>match y9u E b with
  | none=>exec N E cb inl a st fun e st'=>match e with
   | .normal=>exec N E cb inl b st' K
   | e=>K e st'
  | some (live,ps)=>match zbz ps st with
   | none=>none
   | some st=>cutN (fun (d:zgl (z0x live 0 st.regs++st.frm)×z5r st.objs)=>exec N E cb inl b (zf4 live st d) K) fun rec=>
     exec N E cb inl a st fun e st'=>match e with
      | .normal=>match z92 ps st' with
       | none=>none
       | some st'=>match z1z st.objs.length (z0x live 0 st.regs++st.frm) (z0x live 0 st'.regs++st'.frm) with
        | some x=>match z0w st.objs.length st.objs st'.objs with
         | some y=>rec (x,y)
         | none=>none
        | none=>none
      | e=>K e st'
 | .region _ ops draw,st,K=>if draw then match zw1 E ops.toList with
   | false=>zi9 E cb ops.toList ops.toList st fun st'=>K .normal st'
   | true=>zi9 E cb ops.toList ops.toList.dropLast st fun st'=>match ops.toList.getLast? with
    | some o=>match zxk E st' o with
     | some (g,caps,args)=>inl ρ g caps args st' fun v st''=>K .normal (st''.put o.dst v)
     | none=>none
    | none=>none
  else z73 E cb inl ops.toList 0 ops.toList st fun st'=>K .normal st'
 | .cond c a b,st,K=>match (st.ev c).leaf with
  | .val .bool x _=>if x then exec N E cb inl a st K else exec N E cb inl b st K
  | _=>none
 | .block id body,st,K=>match body with
  | .loop body'=>match z4i E.live id with
   | none=>none
   | some (live,ps)=>match zbz ps st with
    | none=>none
    | some st=>z0i N (fun rec (d:zgl (z0x live 0 st.regs++st.frm)×z5r st.objs)=>
     exec N E cb inl body' (zf4 live st d) fun e st'=>match e with
      | .normal=>match z92 ps st' with
       | none=>none
       | some st'=>match z1z st.objs.length (z0x live 0 st.regs++st.frm) (z0x live 0 st'.regs++st'.frm) with
        | some x=>match z0w st.objs.length st.objs st'.objs with
         | some y=>rec (x,y)
         | none=>none
        | none=>none
      | .exit j=>if j==id then K .normal st' else K (.exit j) st'
      | .ret=>K .ret st') (za1 (z0x live 0 st.regs++st.frm),z9z st.objs)
  | body=>exec N E cb inl body st fun e st'=>match e with
   | .exit j=>if j==id then K .normal st' else K (.exit j) st'
   | e=>K e st'
 | .exit id,st,K=>K (.exit id) st
 | .ret,st,K=>K .ret st
 | _,_,_=>none
def zuq (E:Env) (st:St):ResultVar→Option SV
 | .tmp t=>some (st.reg t)
 | .cell a t=>match tyOf E t,(st.reg a).leaf with
  | some ti,.ptr l off=>z1k st.objs ti (.ptr l off)
  | _,_=>none
def zmn (E:Env) (st:St):(ps:List POut)→List ResultVar→Option (z4z ps×List Nat×List Nat)
 | [],[]=>some ((),[],[])
 | .imm b t::ps,v::vs=>match zuq E st v with
  | some sv=>match sv.leaves with
   | some (b',ls)=>if b'==b then match z14 st.objs t ls with
    | some (x,L,[])=>match zmn E st ps vs with
     | some (y,M,B)=>some ((x,y),M,L++B)
     | none=>none
    | _=>none else none
   | none=>none
  | none=>none
 | .deep b t::ps,v::vs=>match zuq E st v with
  | some sv=>match sv.leaves with
   | some (b',ls)=>if b'==b then match z1p st.objs t ls with
    | some (x,L,[])=>match zmn E st ps vs with
     | some (y,M,B)=>some ((x,y),L++M,B)
     | none=>none
    | _=>none else none
   | none=>none
  | none=>none
 | _,_=>none
def z4e:(ps:List PIn)→z6e ps→Nat→List SV×Objs
 | [],_,_=>([],[])
 | .imm b t::ps,x,n=>(z90 b (z2k t x.1 [])::(z4e ps x.2 n).1,(z4e ps x.2 n).2)
 | .mut b t::ps,x,n=>(z90 b (z02 t x.1 n).1::(z4e ps x.2 (n+(z02 t x.1 n).2.length)).1,(z02 t x.1 n).2++(z4e ps x.2 (n+(z02 t x.1 n).2.length)).2)
 | .clo gs r::ps,x,n=>(.one (.clo gs r x.1)::(z4e ps x.2 n).1,(z4e ps x.2 n).2)
 | .ptr t::ps,x,n=>(.one (.ptr n 0)::(z4e ps x.2 (n+1)).1,.box (z2k t x.1 [])::(z4e ps x.2 (n+1)).2)
def zak (os:Objs):(ps:List PIn)→z6e ps→Nat→Option (z51 ps×List Nat)
 | [],_,_=>some ((),[])
 | .imm _ _::ps,x,n=>zak os ps x.2 n
 | .clo _ _::ps,x,n=>zak os ps x.2 n
 | .mut _ t::ps,x,n=>match z0z os t (z02 t x.1 n).1 with
  | some (y,_,[])=>match zak os ps x.2 (n+(z02 t x.1 n).2.length) with
   | some (z,B)=>some ((y,z),B)
   | none=>none
  | _=>none
 | .ptr t::ps,x,n=>match obj os n with
  | .box ls=>match z14 os t ls with
   | some (y,L,[])=>match zak os ps x.2 (n+1) with
    | some (z,B)=>some ((y,z),L++B)
    | none=>none
   | _=>none
  | _=>none
def retK (E:Env) (ins:List PIn) (x:z6e ins) (ps:List POut) (vs:List ResultVar) (e:Ex) (st:St):Option (z4z ps×z51 ins):=
 match e with
 | .exit _=>none
 | _=>match zmn E st ps vs with
  | some (y,M,B)=>if zv0 M&&B.all (fun l=>!has M l&&!Nat.blt l st.fx)&&M.all (fun l=>!Nat.blt l st.ro&&!Nat.blt l st.fx) then
    match zak st.objs ins x 0 with
    | some (z,B2)=>if B2.all (fun l=>!has M l&&!Nat.blt l st.fx) then some (y,z) else none
    | none=>none
   else none
  | none=>none
def znp (L:List Nat):(gs:List (Bool×Ty))→zca gs→List SV
 | [],_=>[]
 | (b,t)::gs,x=>z90 b (z2k t x.1 L)::znp L gs x.2
def zds (fn:Func) (args:List SV):List SV:=args++List.replicate (fn.ntmps - args.length) (.one .undef)
def y0y (a b:List (Bool×Ty)) (x:zca a):Option (zca b):=if h:a=b then some (h▸x) else none
def y00:INL:=fun _ _ _ _ _ _=>none
def zqy (E:Env) (st:St):List ResultVar→Option (List (Bool×List Leaf))
 | []=>some []
 | r::rs=>match zuq E st r with
  | some sv=>match sv.leaves with
   | some p=>match zqy E st rs with
    | some q=>some (p::q)
    | none=>none
   | none=>none
  | none=>none
def inlK {ρ:Type} (E:Env) (n:Nat) (rs:List ResultVar) (K:SV→St→Option ρ) (e:Ex) (st:St):Option ρ:=
 match e with
 | .exit _=>none
 | _=>match zqy E st rs with
  | some vs=>K (zcp vs) { st with regs:=(st.frm.take n).map .one,frm:=st.frm.drop n }
  | none=>none
noncomputable def zwl (N:Nat) (E:Env) (cb:CB) (inl:INL):INL:=fun ρ g caps args st K=>
 match z4i E.clos g with
 | none=>none
 | some ci=>match ci.fn.body with
  | none=>none
  | some c=>exec N (E.enter ci) cb inl c { st with regs:=zds ci.fn (args++caps.map fun p=>.one (.ptr p.1 p.2)),frm:=st.regs.map SV.leaf++st.frm } (inlK E st.regs.length ci.fn.results.toList K)
noncomputable def y05 (N:Nat) (E:Env) (cb:CB):Nat→INL
 | 0=>y00
 | n+1=>zwl N E cb (y05 N E cb n)
noncomputable def zwm (N:Nat) (E:Env) (cb:CB):CB:=fun g caps os gs r x=>
 match z4i E.clos g with
 | none=>none
 | some ci=>match ci.fn.body with
  | none=>none
  | some c=>match y0y gs ci.gs x with
   | none=>none
   | some x=>
    if r.flat then
    (exec N (E.enter ci) cb y00 c { regs:=zds ci.fn (znp (List.range os.length) ci.gs x++caps.map fun p=>.one (.ptr p.1 p.2)),objs:=os,ro:=os.length,fx:=0,frm:=[] } (retK E [] () [.imm false r] ci.fn.results.toList)).bind fun y=>some y.1.1
    else none
noncomputable def cbAt (N:Nat) (E:Env):Nat→CB
 | 0=>fun _ _ _ _ _ _=>none
 | n+1=>zwm N E (cbAt N E n)
noncomputable def cbs (N:Nat) (E:Env):CB:=cbAt N E (if E.q then 2 else 0)
noncomputable def runF (N:Nat) (E:Env) (fn:Func) (ins:List PIn) (outs:List POut) (x:z6e ins):Option (z4z outs×z51 ins):=
 match fn.body with
 | none=>none
 | some c=>exec N E (cbs N E) (y05 N E (cbs N E) 9) c { regs:=zds fn (z4e ins x 0).1,objs:=(z4e ins x 0).2,ro:=0,fx:=(z4e ins x 0).2.length,frm:=[] } (retK E ins x outs fn.results.toList)
end Go.AM
