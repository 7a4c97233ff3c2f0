/- The abstract machine: data types, abstract states, and 'exec', which interprets the translated code on abstract states. No condition. -/
import Derived.Calls
import Derived.Laws.Entries
import Derived.KernelRfl
import Derived.Sort.Defs
import Derived.Lib.BitFns
set_option linter.unusedVariables false
namespace Go.AM
inductive Ty where
 | int (k:IntKind) | bool | str | slice (e:TypeId) (t:Ty) | pair (a b:Ty) | unit
 deriving DecidableEq
@[reducible] def Ty.den:Ty → Type
 | .int _=>Int
 | .bool=>Bool
 | .str=>ByteArray
 | .slice _ t=>List t.den
 | .pair a b=>a.den × b.den
 | .unit=>Unit
def Ty.zero:(t:Ty) → t.den
 | .int _=>(0:Int)
 | .bool=>false
 | .str=>(⟨#[]⟩:ByteArray)
 | .slice _ _=>[]
 | .pair a b=>(a.zero,b.zero)
 | .unit=>()
def Ty.size:Ty → Nat
 | .pair a b=>a.size + b.size
 | .unit=>0
 | _=>1
def Ty.flat:Ty → Bool
 | .slice _ _=>false
 | .pair a b=>a.flat && b.flat
 | _=>true
def Ty.cast (a b:Ty) (x:a.den):Option b.den:=if h:a = b then some (h ▸ x) else none
def castL (a b:Ty) (x:List a.den):Option (List b.den):=if h:a = b then some (h ▸ x) else none
@[reducible] def gsDen:List (Bool × Ty) → Type
 | []=>Unit
 | g :: r=>g.2.den × gsDen r
inductive Leaf where
 | undef
 | skip
 | nilS
 | val (t:Ty) (x:t.den) (L:List Nat)
 | own (l:Nat)
 | sub (l:Nat) (i:Int) (off:Nat)
 | ptr (l off:Nat)
 | ela (t:Ty) (xs:List t.den) (i:Int) (off:Nat) (L:List Nat)
 | oela (l:Nat) (i:Int) (off:Nat)
 | oel2 (l:Nat) (i:Int) (off:Nat) (j:Int) (o2:Nat)
 | view (l:Nat) (lo hi:Int)
 | fn (f:FuncId) (caps:List (Nat × Nat))
 | clo (gs:List (Bool × Ty)) (r:Ty) (p:gsDen gs → Option r.den)
def Leaf.known:Leaf → Bool
 | .undef | .skip=>false
 | _=>true
inductive SV where
 | one (c:Leaf)
 | agg (cs:List Leaf)
 | tup (vs:List (Bool × List Leaf))
inductive AObj where
 | dead
 | box (cs:List Leaf)
 | row (e:TypeId) (t:Ty) (xs:List t.den) (deep:Bool) (L:List Nat)
structure St where
 regs:List SV
 objs:List AObj
 ro:Nat
 fx:Nat
 frm:List Leaf
structure FI where
 off:Nat
 size:Nat
 type:TypeId
inductive TD where
 | data | slice (e:TypeId) | struct (fs:List FI)
structure TI where
 td:TD
 ty:Ty
 agg:Bool
 bytes:Nat
def assoc {α:Type}:List (Nat × α) → Nat → Option α
 | [],_=>none
 | (k,x) :: r,n=>if k == n then some x else assoc r n
inductive Tree (α:Type):Type 1 where
 | ret (a:α)
 | fail
 | ite (b:Bool) (t e:Tree α)
 | bind {β:Type} (m:Option β) (k:β → Tree α)
def Tree.run {α ρ:Type}:Tree α → (α → Option ρ) → Option ρ
 | .ret a,K=>K a
 | .fail,_=>none
 | .ite b t e,K=>if b then t.run K else e.run K
 | .bind m k,K=>m.bind fun x=>(k x).run K
def Tree.map {α γ:Type} (f:α → γ):Tree α → Tree γ
 | .ret a=>.ret (f a)
 | .fail=>.fail
 | .ite b t e=>.ite b (t.map f) (e.map f)
 | .bind m k=>.bind m fun x=>(k x).map f
def Tree.ofOpt {α:Type}:Option α → Tree α
 | some a=>.ret a
 | none=>.fail
def Tree.need {α:Type} (b:Bool) (t:Tree α):Tree α:=.ite b t .fail
def explode:(t:Ty) → t.den → List Nat → List Leaf
 | .pair a b,x,L=>explode a x.1 L ++ explode b x.2 L
 | .unit,_,_=>[]
 | .int k,x,_=>[.val (.int k) x []]
 | .bool,x,_=>[.val .bool x []]
 | .str,x,_=>[.val .str x []]
 | .slice e t,x,L=>[.val (.slice e t) x L]
def zeroLeaves:Ty → List Leaf
 | .pair a b=>zeroLeaves a ++ zeroLeaves b
 | .unit=>[]
 | .int k=>[.val (.int k) (0:Int) []]
 | .bool=>[.val .bool false []]
 | .str=>[.val .str (⟨#[]⟩:ByteArray) []]
 | .slice _ _=>[.nilS]
def explodeD:(t:Ty) → t.den → Nat → Int → Nat → List Leaf
 | .pair a b,x,l,i,off=>explodeD a x.1 l i off ++ explodeD b x.2 l i (off + a.size)
 | .unit,_,_,_,_=>[]
 | .int k,x,_,_,_=>[.val (.int k) x []]
 | .bool,x,_,_,_=>[.val .bool x []]
 | .str,x,_,_,_=>[.val .str x []]
 | .slice _ _,_,l,i,off=>[.sub l i off]
def leafAt:(t:Ty) → t.den → Nat → Option ((s:Ty) × s.den)
 | .pair a b,x,off=>if off < a.size then leafAt a x.1 off else leafAt b x.2 (off - a.size)
 | .unit,_,_=>none
 | .int k,x,off=>if off == 0 then some ⟨.int k,x⟩ else none
 | .bool,x,off=>if off == 0 then some ⟨.bool,x⟩ else none
 | .str,x,off=>if off == 0 then some ⟨.str,x⟩ else none
 | .slice e t,x,off=>if off == 0 then some ⟨.slice e t,x⟩ else none
def setAt:(t:Ty) → t.den → Nat → (s:Ty) → s.den → Option t.den
 | .pair a b,x,off,s,y=>
  if off < a.size then match setAt a x.1 off s y with | some z=>some (z,x.2) | none=>none
  else match setAt b x.2 (off - a.size) s y with | some z=>some (x.1,z) | none=>none
 | .unit,_,_,_,_=>none
 | .int k,_,off,s,y=>if off == 0 then Ty.cast s (.int k) y else none
 | .bool,_,off,s,y=>if off == 0 then Ty.cast s .bool y else none
 | .str,_,off,s,y=>if off == 0 then Ty.cast s .str y else none
 | .slice e t,_,off,s,y=>if off == 0 then Ty.cast s (.slice e t) y else none
def rd {α:Type} (xs:List α) (i:Int) (d:α):α:=xs.getD i.toNat d
def has (L:List Nat) (l:Nat):Bool:=L.any (Nat.beq l)
def noDup:List Nat → Bool
 | []=>true
 | x :: r=>!has r x && noDup r
abbrev Objs:=List AObj
def obj (os:Objs) (l:Nat):AObj:=os.getD l .dead
def St.reg (st:St) (t:Nat):SV:=st.regs.getD t (.one .undef)
def setReg (regs:List SV) (d:Option Tmp) (v:SV):List SV:=
 match d with
 | some t=>regs.set t v
 | none=>regs
def St.put (st:St) (d:Option Tmp) (v:SV):St:={ st with regs:=setReg st.regs d v }
def sliceTy (os:Objs):Leaf → Option Ty
 | .val (.slice _ s) _ _=>some s
 | .own l=>match obj os l with
  | .row _ s _ _ _=>some s
  | _=>none
 | .sub l _ off=>match obj os l with
  | .row _ s _ _ _=>match leafAt s s.zero off with
   | some ⟨.slice _ u,_⟩=>some u
   | _=>none
  | _=>none
 | .view l _ _=>match obj os l with
  | .row _ s _ _ _=>some s
  | _=>none
 | _=>none
def sliceData (os:Objs) (t:Ty):Leaf → Option (List t.den × List Nat)
 | .nilS=>some ([],[])
 | .val (.slice _ s) x L=>match castL s t x with | some y=>some (y,L) | none=>none
 | .own l=>match obj os l with
  | .row _ s xs _ L=>match castL s t xs with | some y=>some (y,l :: L) | none=>none
  | _=>none
 | .sub l i off=>match obj os l with
  | .row _ s xs _ L=>match leafAt s (rd xs i s.zero) off with
   | some ⟨.slice _ u,x⟩=>match castL u t x with | some y=>some (y,l :: L) | none=>none
   | _=>none
  | _=>none
 | .view l lo hi=>match obj os l with
  | .row _ s xs _ L=>match castL s t ((xs.take hi.toNat).drop lo.toNat) with | some y=>some (y,l :: L) | none=>none
  | _=>none
 | _=>none
def getImm (os:Objs):(t:Ty) → List Leaf → Option (t.den × List Nat × List Leaf)
 | .pair a b,ls=>match getImm os a ls with
  | some (x,L,r)=>match getImm os b r with
   | some (y,M,q)=>some ((x,y),L ++ M,q)
   | none=>none
  | none=>none
 | .unit,ls=>some ((),[],ls)
 | .slice _ t,c :: r=>match sliceData os t c with
  | some (x,L)=>some (x,L,r)
  | none=>none
 | .int k,.val s x _ :: r=>match Ty.cast s (.int k) x with | some y=>some (y,[],r) | none=>none
 | .bool,.val s x _ :: r=>match Ty.cast s .bool x with | some y=>some (y,[],r) | none=>none
 | .str,.val s x _ :: r=>match Ty.cast s .str x with | some y=>some (y,[],r) | none=>none
 | _,_=>none
def getDeep (os:Objs):(t:Ty) → List Leaf → Option (t.den × List Nat × List Leaf)
 | .pair a b,ls=>match getDeep os a ls with
  | some (x,L,r)=>match getDeep os b r with
   | some (y,M,q)=>some ((x,y),L ++ M,q)
   | none=>none
  | none=>none
 | .unit,ls=>some ((),[],ls)
 | .slice _ _,.nilS :: r=>some ([],[],r)
 | .slice e t,.own l :: r=>match obj os l with
  | .row e' s xs true _=>if e' == e then match castL s t xs with | some y=>some (y,[l],r) | none=>none else none
  | _=>none
 | .int k,.val s x _ :: r=>match Ty.cast s (.int k) x with | some y=>some (y,[],r) | none=>none
 | .bool,.val s x _ :: r=>match Ty.cast s .bool x with | some y=>some (y,[],r) | none=>none
 | .str,.val s x _ :: r=>match Ty.cast s .str x with | some y=>some (y,[],r) | none=>none
 | _,_=>none
def getMut (os:Objs):(t:Ty) → List Leaf → Option (t.den × List Nat × List Leaf)
 | .pair a b,ls=>match getMut os a ls with
  | some (x,L,r)=>match getMut os b r with
   | some (y,M,q)=>some ((x,y),L ++ M,q)
   | none=>none
  | none=>none
 | .unit,ls=>some ((),[],ls)
 | .slice _ _,.nilS :: r=>some ([],[],r)
 | .slice e t,.own l :: r=>match obj os l with
  | .row e' s xs true _=>if e' == e then match castL s t xs with | some y=>some (y,[l],r) | none=>none else none
  | _=>none
 | .slice e t,.sub l i off :: r=>match obj os l with
  | .row _ s xs true _=>match leafAt s (rd xs i s.zero) off with
   | some ⟨.slice e' u,x⟩=>if e' == e then match castL u t x with | some y=>some (y,[l],r) | none=>none else none
   | _=>none
  | _=>none
 | .int k,.val s x _ :: r=>match Ty.cast s (.int k) x with | some y=>some (y,[],r) | none=>none
 | .bool,.val s x _ :: r=>match Ty.cast s .bool x with | some y=>some (y,[],r) | none=>none
 | .str,.val s x _ :: r=>match Ty.cast s .str x with | some y=>some (y,[],r) | none=>none
 | _,_=>none
def putMut (os:Objs):(t:Ty) → t.den → List Leaf → Option (Objs × List Leaf)
 | .pair a b,x,ls=>match putMut os a x.1 ls with
  | some (os',r)=>putMut os' b x.2 r
  | none=>none
 | .unit,_,ls=>some (os,ls)
 | .slice _ _,_,.nilS :: r=>some (os,r)
 | .slice _ t,y,.own l :: r=>match obj os l with
  | .row e s _ d L=>match castL t s y with | some ys=>some (os.set l (.row e s ys d L),r) | none=>none
  | _=>none
 | .slice e t,y,.sub l i off :: r=>match obj os l with
  | .row e' s xs d L=>match setAt s (rd xs i s.zero) off (.slice e t) y with
   | some z=>some (os.set l (.row e' s (xs.set i.toNat z) d L),r)
   | none=>none
  | _=>none
 | .int _,_,_ :: r=>some (os,r)
 | .bool,_,_ :: r=>some (os,r)
 | .str,_,_ :: r=>some (os,r)
 | _,_,_=>none
def SV.leaves:SV → Option (Bool × List Leaf)
 | .one c=>some (false,[c])
 | .agg cs=>some (true,cs)
 | .tup _=>none
def packSV:Bool → List Leaf → SV
 | true,cs=>.agg cs
 | false,[c]=>.one c
 | false,_=>.one .undef
def Leaf.dies (hd:Bool) (l:Nat):Leaf → Bool
 | .val _ _ L | .ela _ _ _ _ L=>has L l
 | .own k | .oela k _ _ | .view k _ _ | .ptr k _=>hd && k == l
 | .sub k _ _ | .oel2 k _ _ _ _=>k == l
 | .fn _ caps=>hd && caps.any fun p=>p.1 == l
 | _=>false
def Leaf.kill (m:Bool) (l:Nat) (c:Leaf):Leaf:=if c.dies m l then .undef else c
def SV.kill (m:Bool) (l:Nat):SV → SV
 | .one c=>.one (c.kill m l)
 | .agg cs=>.agg (cs.map (Leaf.kill m l))
 | .tup vs=>.tup (vs.map fun v=>(v.1,v.2.map (Leaf.kill m l)))
def AObj.kill (m:Bool) (l:Nat):AObj → AObj
 | .box cs=>.box (cs.map (Leaf.kill m l))
 | o=>o
def AObj.leans (l:Nat):AObj → Bool
 | .row _ _ _ _ L=>has L l
 | _=>false
def St.kill (m:Bool) (l:Nat) (st:St):Option St:=
 if st.objs.any (AObj.leans l) then none else some { st with regs:=st.regs.map (SV.kill m l),objs:=st.objs.map (AObj.kill m l),frm:=st.frm.map (Leaf.kill m l) }
def St.killAll (m:Bool):List Nat → St → Option St
 | [],st=>some st
 | l :: r,st=>match st.kill m l with
  | some st'=>st'.killAll m r
  | none=>none
def deadAll (M:List Nat) (os:Objs):Objs:=M.foldl (fun os m=>os.set m .dead) os
def St.move (st:St) (M:List Nat) (hd:Bool) (l:Nat):Option St:=
 if noDup (l :: M) && M.all (fun m=>!Nat.blt m st.ro && !Nat.blt m st.fx) then match st.killAll true M with
  | some st'=>st'.kill hd l
  | none=>none
 else none
def litSV:Value → SV
 | .int k n=>.one (.val (.int k) n [])
 | .bool b=>.one (.val .bool b [])
 | .string s=>.one (.val .str s [])
 | .slice none 0 0=>.one .nilS
 | _=>.one .undef
def St.ev (st:St):Operand → SV
 | .tmp t=>st.reg t
 | .const v=>litSV v
 | .global _=>.one .undef
 | .func f=>.one (.fn f [])
def SV.leaf:SV → Leaf
 | .one c=>c
 | _=>.undef
def vint (k:IntKind) (n:Int):SV:=.one (.val (.int k) n [])
def vbool (b:Bool):SV:=.one (.val .bool b [])
def vstr (s:ByteArray):SV:=.one (.val .str s [])
def kindEq (j k:IntKind):Bool:=decide (j = k)
def intBin (op:BinOp) (k:IntKind) (a b:Int):Tree SV:=
 match op with
 | .add=>.ret (vint k (k.wrap (a + b)))
 | .sub=>.ret (vint k (k.wrap (a - b)))
 | .mul=>.ret (vint k (k.wrap (a * b)))
 | .quo=>.ite (b == 0) .fail (.ret (vint k (k.wrap (a.tdiv b))))
 | .rem=>.ite (b == 0) .fail (.ret (vint k (a.tmod b)))
 | .eql=>.ret (vbool (a == b))
 | .neq=>.ret (vbool (a != b))
 | .lss=>.ret (vbool (decide (a < b)))
 | .leq=>.ret (vbool (decide (a ≤ b)))
 | .gtr=>.ret (vbool (decide (a > b)))
 | .geq=>.ret (vbool (decide (a ≥ b)))
 | .and=>.ret (vint k (bits .and k a b))
 | .or=>.ret (vint k (bits .or k a b))
 | .xor=>.ret (vint k (bits .xor k a b))
 | .andNot=>.ret (vint k (bits .andNot k a b))
 | _=>.fail
def shOp:BinOp → Bool
 | .shl | .shr=>true
 | _=>false
def shVal (op:BinOp) (k:IntKind) (a b:Int):Int:=
 match op with
 | .shl=>k.wrap (a * 2 ^ min b.toNat k.bits)
 | _=>a / 2 ^ min b.toNat k.bits
def strBin (op:BinOp) (a b:ByteArray):Tree SV:=
 match op with
 | .add=>.need (decide (a.size + b.size ≤ 9223372036854775807)) (.ret (vstr (a ++ b)))
 | .eql=>.ret (vbool (a.toList == b.toList))
 | .neq=>.ret (vbool (!(a.toList == b.toList)))
 | .lss=>.ret (vbool (Op.bytesLess a.toList b.toList))
 | _=>.fail
def eqLeaves:List Leaf → List Leaf → Option Bool
 | [],[]=>some true
 | .val (.int .i64) x _ :: r,.val (.int .i64) y _ :: s=>match eqLeaves r s with
  | some b=>some (@BEq.beq Int _ x y && b)
  | none=>none
 | .val .str x _ :: r,.val .str y _ :: s=>match eqLeaves r s with
  | some b=>some (@BEq.beq (List UInt8) _ (ByteArray.toList x) (ByteArray.toList y) && b)
  | none=>none
 | _,_=>none
def shapeIs:List Bool → List Leaf → Bool
 | [],[]=>true
 | false :: r,.val (.int .i64) _ _ :: l=>shapeIs r l
 | true :: r,.val .str _ _ :: l=>shapeIs r l
 | _,_=>false
def bin (eqs:List (TypeId × List Bool)) (isB:Bool) (op:BinOp) (t:TypeId) (x y:SV):Tree SV:=
 match x,y with
 | .one (.val (.int k) a _),.one (.val (.int j) b _)=>if shOp op then .ite (decide (b < 0)) .fail (.ret (vint k (shVal op k a b))) else if kindEq k j then intBin op k a b else .fail
 | .one (.val .str a _),.one (.val .str b _)=>strBin op a b
 | .one (.val .bool a _),.one (.val .bool b _)=>if isB then
   match op with
   | .eql=>.ret (vbool (a == b))
   | .neq=>.ret (vbool (a != b))
   | _=>.fail
   else .fail
 | .agg a,.agg b=>match assoc eqs t with
  | some sh=>if shapeIs sh a && shapeIs sh b then
   match op,eqLeaves a b with
   | .eql,some r=>.ret (vbool r)
   | .neq,some r=>.ret (vbool (!r))
   | _,_=>.fail
   else .fail
  | none=>.fail
 | _,_=>.fail
def un (op:UnOp) (x:SV):Tree SV:=
 match op,x with
 | .not,.one (.val .bool b _)=>.ret (vbool (!b))
 | .neg,.one (.val (.int k) n _)=>.ret (vint k (k.wrap (0 - n)))
 | _,_=>.fail
def bt (s:ByteArray) (i:Int):Int:=if h:i.toNat < s.size then ((s[i.toNat]'h).toNat:Int) else 0
def strOf (xs:List Int):ByteArray:=⟨(xs.map fun n=>n.toNat.toUInt8).toArray⟩
def bytesOf (s:ByteArray):List Int:=s.data.toList.map fun b=>(b.toNat:Int)
def bnd (ρ:Operand → SV) (d:Int):Option Operand → Option Int
 | none=>some d
 | some o=>match ρ o with
  | .one (.val (.int _) n _)=>some n
  | _=>none
def sliceOp (isS:Bool) (okT:Ty → Bool) (ρ:Operand → SV) (os:Objs) (x:SV) (lo hi:Option Operand):Tree SV:=
 match x with
 | .one (.val .str s _)=>if isS then
  match bnd ρ 0 lo,bnd ρ (s.size:Int) hi with
  | some l,some h=>.need (decide (0 ≤ h)) (.need (decide (h ≤ s.size)) (.need (decide (0 ≤ l)) (.need (decide (l ≤ h)) (.ret (vstr (s.extract l.toNat h.toNat))))))
  | _,_=>.fail
  else .fail
 | .one c=>
  match sliceTy os c with
  | none=>.fail
  | some t=>if okT t then match sliceData os t c with
   | none=>.fail
   | some (xs,L)=>
    match bnd ρ 0 lo,bnd ρ (xs.length:Int) hi with
    | some l,some h=>.need (decide (0 ≤ h)) (.need (decide (h ≤ xs.length)) (.need (decide (0 ≤ l)) (.need (decide (l ≤ h)) (.ret (.one (.val (.slice 0 t) ((xs.take h.toNat).drop l.toNat) L))))))
    | _,_=>.fail
   else .fail
 | _=>.fail
def viewOf (vw:Bool):SV → Option Nat
 | .one (.own l)=>if vw then some l else none
 | _=>none
def sliceView (okT:Ty → Bool) (ρ:Operand → SV) (os:Objs) (l:Nat) (lo hi:Option Operand):Tree SV:=
 match obj os l with
 | .row _ t xs _ _=>if okT t then match bnd ρ 0 lo,bnd ρ (xs.length:Int) hi with
  | some i,some j=>.need (decide (0 ≤ j)) (.need (decide (j ≤ xs.length)) (.need (decide (0 ≤ i)) (.need (decide (i ≤ j)) (.ret (.one (.view l i j))))))
  | _,_=>.fail
  else .fail
 | _=>.fail
def sliceOpV (vw isS:Bool) (okT:Ty → Bool) (ρ:Operand → SV) (os:Objs) (x:SV) (lo hi:Option Operand):Tree SV:=
 match viewOf vw x with
 | some l=>sliceView okT ρ os l lo hi
 | none=>sliceOp isS okT ρ os x lo hi
def lenOp (isS isL:Bool) (os:Objs) (x:SV):Option Int:=
 match x with
 | .one (.val .str s _)=>if isS then some (s.size:Int) else none
 | .one .nilS=>if isL then some 0 else none
 | .one c=>if !isL then none else match sliceTy os c with
  | some t=>match sliceData os t c with
   | some (xs,_)=>some (xs.length:Int)
   | none=>none
  | none=>none
 | _=>none
def loadOp (os:Objs) (ti:TI) (c:Leaf):Option SV:=
 let mkv (ls:List Leaf):Option SV:=
  let ls:=ls.take ti.ty.size
  if ls.length == ti.ty.size then (if ti.agg then some (.agg ls) else match ls with | [c]=>some (.one c) | _=>none) else none
 match c with
 | .ptr l off=>match obj os l with
  | .box cs=>mkv (cs.drop off)
  | _=>none
 | .ela t xs i off L=>mkv ((explode t (rd xs i t.zero) L).drop off)
 | .oela l i off=>match obj os l with
  | .row _ t xs true _=>mkv ((explodeD t (rd xs i t.zero) l i 0).drop off)
  | .row _ t xs false L=>mkv ((explode t (rd xs i t.zero) L).drop off)
  | _=>none
 | .oel2 l i off j o2=>match sliceTy os (.sub l i off) with
  | some u=>match sliceData os u (.sub l i off) with
   | some (ys,L)=>mkv ((explode u (rd ys j u.zero) L).drop o2)
   | none=>none
  | none=>none
 | _=>none
def putLeaves (cs:List Leaf) (off:Nat) (ls:List Leaf):Option (List Leaf):=
 if off + ls.length ≤ cs.length then some (cs.take off ++ ls ++ cs.drop (off + ls.length)) else none
def putScalars:(t:Ty) → t.den → Nat → List Leaf → Option t.den
 | _,x,_,[]=>some x
 | t,x,off,.val s y _ :: r=>if s.flat && s.size == 1 then match setAt t x off s y with
  | some z=>putScalars t z (off + 1) r
  | none=>none else none
 | _,_,_,_=>none
def uni (L M:List Nat):List Nat:=M.foldl (fun L m=>if has L m then L else L ++ [m]) L
def putImm (os:Objs):(t:Ty) → t.den → Nat → Leaf → Option (t.den × List Nat)
 | .pair a b,x,off,c=>
  if off < a.size then match putImm os a x.1 off c with
   | some (z,M)=>some ((z,x.2),M)
   | none=>none
  else match putImm os b x.2 (off - a.size) c with
   | some (z,M)=>some ((x.1,z),M)
   | none=>none
 | .slice _ t,_,off,c=>if off == 0 then sliceData os t c else none
 | .int k,_,off,.val s y _=>if off == 0 then match Ty.cast s (.int k) y with
   | some z=>some (z,[])
   | none=>none
  else none
 | .bool,_,off,.val s y _=>if off == 0 then match Ty.cast s .bool y with
   | some z=>some (z,[])
   | none=>none
  else none
 | .str,_,off,.val s y _=>if off == 0 then match Ty.cast s .str y with
   | some z=>some (z,[])
   | none=>none
  else none
 | _,_,_,_=>none
def putImms (os:Objs):(t:Ty) → t.den → Nat → List Leaf → Option (t.den × List Nat)
 | _,x,_,[]=>some (x,[])
 | t,x,off,c :: r=>match putImm os t x off c with
  | some (z,M)=>match putImms os t z (off + 1) r with
   | some (q,N)=>some (q,M ++ N)
   | none=>none
  | none=>none
def St.loosen (st:St) (l:Nat) (L':List Nat):Option St:=
 if Nat.blt l st.ro || Nat.blt l st.fx then none else
 match obj st.objs l with
 | .row e t xs _ L=>match st.kill false l with
  | some st'=>some { st' with objs:=st'.objs.set l (.row e t xs false (uni L L')) }
  | none=>none
 | _=>none
def St.loose (st:St) (d:Bool) (l:Nat):Option St:=if d then st.loosen l [] else some st
def frz1 (os:Objs) (m:Nat):Leaf → Leaf
 | .own k=>if k == m then match obj os m with
   | .row e t xs _ L=>.val (.slice e t) xs L
   | _=>.undef
  else .own k
 | c=>c.kill true m
def ownsOf:List Leaf → List Nat
 | []=>[]
 | .own m :: r=>m :: ownsOf r
 | _ :: r=>ownsOf r
def St.frzLs:List Nat → List Leaf → St → Option (List Leaf × St)
 | [],ls,st=>some (ls,st)
 | m :: M,ls,st=>if Nat.blt m st.ro || Nat.blt m st.fx then none else
  match obj st.objs m with
  | .row _ _ _ _ _=>match st.kill true m with
   | some st'=>St.frzLs M (ls.map (frz1 st.objs m)) { st' with objs:=st'.objs.set m .dead }
   | none=>none
  | _=>none
def storeShal (st:St) (l:Nat) (i:Int) (off:Nat) (ls:List Leaf):Option St:=
 match obj st.objs l with
 | .row e t xs d L=>
  if Nat.blt l st.ro || has (ownsOf ls) l then none else
  match st.frzLs (ownsOf ls) ls with
  | some (ls1,st1)=>match st1.loose d l with
   | some st2=>match putImms st2.objs t (rd xs i t.zero) off (ls1.map (Leaf.kill false l)) with
    | some (z,M)=>if has M l then none else match st2.kill false l with
     | some st3=>some { st3 with objs:=st3.objs.set l (.row e t (xs.set i.toNat z) false (uni L M)) }
     | none=>none
    | none=>none
   | none=>none
  | none=>none
 | _=>none
def storeInD (st:St) (ti:TI) (l:Nat) (i:Int) (off:Nat) (j:Int) (o2:Nat) (ls:List Leaf):Option St:=
 if Nat.blt l st.ro || Nat.blt l st.fx then none else
 match obj st.objs l with
 | .row e t xs true L=>match leafAt t (rd xs i t.zero) off with
  | some ⟨.slice e' u,ys⟩=>if o2 == 0 && decide (ti.ty = u) then match getDeep st.objs u ls with
   | some (q,M,[])=>match setAt t (rd xs i t.zero) off (.slice e' u) (ys.set j.toNat q) with
    | some z=>match st.move M false l with
     | some st'=>some { st' with objs:=(deadAll M st'.objs).set l (.row e t (xs.set i.toNat z) true L) }
     | none=>none
    | none=>none
   | _=>none
   else none
  | _=>none
 | _=>none
def storeIn (st:St) (l:Nat) (i:Int) (off:Nat) (j:Int) (o2:Nat) (ls:List Leaf):Option St:=
 if Nat.blt l st.ro then none else
 match obj st.objs l with
 | .row e t xs true L=>match leafAt t (rd xs i t.zero) off with
  | some ⟨.slice e' u,ys⟩=>match putScalars u (rd ys j u.zero) o2 ls with
   | some q=>match setAt t (rd xs i t.zero) off (.slice e' u) (ys.set j.toNat q) with
    | some z=>match st.kill false l with
     | some st'=>some { st' with objs:=st'.objs.set l (.row e t (xs.set i.toNat z) true L) }
     | none=>none
    | none=>none
   | none=>none
  | _=>none
 | _=>none
def storeOp (st:St) (ti:TI) (c:Leaf) (v:SV):Option St:=
 match v.leaves with
 | none=>none
 | some (_,ls)=>
  if ls.length == ti.ty.size && Nat.blt 0 ti.ty.size then
   match c with
   | .ptr l off=>if Nat.blt l st.ro then none else match st.kill false l with
    | none=>none
    | some st'=>match obj st'.objs l with
     | .box cs=>match putLeaves cs off (ls.map (Leaf.kill false l)) with
      | some cs'=>if (ls.map (Leaf.kill false l)).all Leaf.known then some { st' with objs:=st'.objs.set l (.box cs') } else none
      | none=>none
     | _=>none
   | .oela l i off=>if Nat.blt l st.ro then none else match obj st.objs l with
    | .row e t xs deep L=>
     if ti.ty.flat then match putScalars t (rd xs i t.zero) off ls with
      | some z=>match st.kill false l with
       | some st'=>some { st' with objs:=st'.objs.set l (.row e t (xs.set i.toNat z) deep L) }
       | none=>none
      | none=>none
     else if deep && off == 0 && decide (ti.ty = t) && !Nat.blt l st.fx then match getDeep st.objs t ls with
      | some (z,M,[])=>match st.move M false l with
       | some st'=>some { st' with objs:=(deadAll M st'.objs).set l (.row e t (xs.set i.toNat z) deep L) }
       | none=>storeShal st l i off ls
      | _=>storeShal st l i off ls
     else storeShal st l i off ls
    | _=>none
   | .oel2 l i off j o2=>if ti.ty.flat then storeIn st l i off j o2 ls else storeInD st ti l i off j o2 ls
   | _=>none
  else none
def partsOf (t:Ty) (os:Objs) (deep:Bool):List (Nat × SV) → Nat → Option (List t.den × List Nat)
 | [],_=>some ([],[])
 | (j,v) :: r,i=>if j == i then match v.leaves with
  | none=>none
  | some (_,ls)=>match (if deep then getDeep os t ls else getImm os t ls) with
   | some (x,M,[])=>match partsOf t os deep r (i + 1) with
    | some (xs,L)=>some (x :: xs,M ++ L)
    | none=>none
   | _=>none
  else none
def dstOf (os:Objs):Leaf → Option (Nat × Int × Int)
 | .own l=>match obj os l with
  | .row _ _ xs _ _=>some (l,0,xs.length)
  | _=>none
 | .view l lo hi=>some (l,lo,hi)
 | _=>none
def copyN {α:Type} (ys:List α) (lo hi:Int):Nat:=min ys.length (hi.toNat - lo.toNat)
def copyL {α:Type} (xs ys:List α) (lo hi:Int):List α:=xs.take lo.toNat ++ ys.take (copyN ys lo hi) ++ xs.drop (lo.toNat + copyN ys lo hi)
def copyTo (st:St) (d:Option Tmp) (l:Nat) (lo hi:Int) (x:Leaf):Tree St:=
 if Nat.blt l st.ro then .fail else
 match obj st.objs l with
 | .row e t xs deep L=>
  if t.flat && t.size == 1 then match sliceData st.objs t x with
   | none=>.fail
   | some (ys,_)=>match st.kill false l with
    | some st'=>.ret (({ st' with objs:=st'.objs.set l (.row e t (copyL xs ys lo hi) deep L) }).put d (vint .i64 (copyN ys lo hi:Nat)))
    | none=>.fail
   else .fail
 | _=>.fail
def appendShal (st:St) (d:Option Tmp) (e:TypeId) (l:Nat) (t:Ty) (deep:Bool) (L:List Nat) (xs:List t.den) (ys:List t.den) (dm:Bool) (m:Nat) (M:List Nat):Tree St:=
 if has M l || Nat.beq m l then .fail else
 match st.loose dm m with
 | none=>.fail
 | some st1=>match st1.loose deep l with
  | none=>.fail
  | some st2=>match st2.kill true l with
   | none=>.fail
   | some st3=>.ret (({ st3 with objs:=st3.objs.set l (.row e t (xs ++ ys) false (uni L M)) }).put d (.one (.own l)))
def shalOf (os:Objs) (t:Ty):Leaf → Option (Bool × Nat × List Nat)
 | .own m=>match obj os m with
  | .row _ _ _ dm Lm=>some (dm,m,Lm)
  | _=>none
 | c=>match sliceData os t c with
  | some (_,M)=>some (false,os.length,M)
  | none=>none
def shalT (st:St) (d:Option Tmp) (e:TypeId) (l:Nat) (t:Ty) (deep:Bool) (L:List Nat) (xs ys:List t.den) (x:Leaf):Tree St:=
 match shalOf st.objs t x with
 | some (dm,m,N)=>appendShal st d e l t deep L xs ys dm m N
 | none=>.fail
def appendTo (st:St) (d:Option Tmp) (e:TypeId) (ti:TI) (l:Nat) (x:Leaf):Tree St:=
 if Nat.blt l st.ro || Nat.blt l st.fx then .fail else
 match obj st.objs l with
 | .row e' t xs deep L=>
  if e' == e && Nat.blt 0 t.size && t.size == ti.ty.size && Nat.blt 0 ti.bytes then
   match sliceData st.objs t x with
   | none=>.fail
   | some (ys,M)=>
    .need (decide ((xs.length + ys.length) * ti.bytes ≤ 140737488355328))
     (if t.flat then
      (if has M l then .fail else match st.kill true l with
       | some st=>.ret (({ st with objs:=st.objs.set l (.row e t (xs ++ ys) deep L) }).put d (.one (.own l)))
       | none=>.fail)
     else
      match deep,x with
      | true,.nilS=>match st.kill true l with
       | some st=>.ret (({ st with objs:=st.objs.set l (.row e t (xs ++ ys) true L) }).put d (.one (.own l)))
       | none=>.fail
      | true,.own m=>match obj st.objs m with
       | .row e2 t2 _ true _=>if e2 == e' && decide (t2 = t) then match st.move [m] true l with
        | some st=>.ret (({ st with objs:=(deadAll [m] st.objs).set l (.row e t (xs ++ ys) true L) }).put d (.one (.own l)))
        | none=>.fail else shalT st d e l t deep L xs ys x
       | _=>shalT st d e l t deep L xs ys x
      | _,_=>shalT st d e l t deep L xs ys x)
  else .fail
 | _=>.fail
inductive PIn where
 | imm (agg:Bool) (t:Ty)
 | mut (agg:Bool) (t:Ty)
 | clo (gs:List (Bool × Ty)) (r:Ty)
 | ptr (t:Ty)
inductive POut where
 | imm (agg:Bool) (t:Ty)
 | deep (agg:Bool) (t:Ty)
@[reducible] def PIn.den:PIn → Type
 | .imm _ t=>t.den
 | .mut _ t=>t.den
 | .clo gs r=>gsDen gs → Option r.den
 | .ptr t=>t.den
@[reducible] def POut.ty:POut → Ty
 | .imm _ t=>t
 | .deep _ t=>t
def POut.agg:POut → Bool
 | .imm b _=>b
 | .deep b _=>b
@[reducible] def insDen:List PIn → Type
 | []=>Unit
 | p :: r=>p.den × insDen r
@[reducible] def outsDen:List POut → Type
 | []=>Unit
 | p :: r=>p.ty.den × outsDen r
@[reducible] def mutsDen:List PIn → Type
 | []=>Unit
 | .mut _ t :: r=>t.den × mutsDen r
 | .ptr t :: r=>t.den × mutsDen r
 | .imm _ _ :: r=>mutsDen r
 | .clo _ _ :: r=>mutsDen r
structure FSpec where
 ins:List PIn
 outs:List POut
 fn:insDen ins → Option (outsDen outs × mutsDen ins)
 q:Bool:=true
def PIn.isMut:PIn → Bool
 | .mut _ _=>true
 | .ptr _=>true
 | _=>false
def PIn.isClo:PIn → Bool
 | .clo _ _=>true
 | _=>false
inductive Spot where
 | r (i:Nat) | f (i:Nat) | b (l k:Nat)
inductive Adj where
 | row (l k:Nat) (e:TypeId) (t:Ty) (d:Bool) (L:List Nat)
 | loose (l:Nat) (L:List Nat)
 | frz (s:Spot) (e:TypeId) (t:Ty)
 | lean (s:Spot) (L:List Nat)
 | take (s:Spot) (c:Nat)
 | drop (i:Nat)
structure CloInfo where
 fn:Func
 gs:List (Bool × Ty)
 live:List (Nat × List Nat × List Adj)
inductive RK where
 | filter | cut | sort
structure RInfo where
 k:RK
 e:TypeId
 size:Nat
 ag:Bool
structure Env where
 tab:List (TypeId × TI)
 sig:List (FuncId × FSpec):=[]
 clos:List (FuncId × CloInfo):=[]
 live:List (Nat × List Nat × List Adj):=[]
 eqs:List (TypeId × List Bool):=[]
 inl:List Nat:=[]
 views:Bool:=false
 rfn:List (FuncId × RInfo):=[]
 brw:Bool:=false
 imm:List Nat:=[]
 q:Bool:=true
 res:Bool:=false
 slots:List (Nat × Nat):=[]
 cuts:List (Nat × List Nat × List Adj):=[]
 rsl:List Nat:=[]
 app:List Nat:=[]
def tyOf (E:Env) (t:TypeId):Option TI:=assoc E.tab t
def isBoolTy (E:Env) (t:TypeId):Bool:=match tyOf E t with
 | some { td:=.data,ty:=.bool,.. }=>true
 | _=>false
def elemSz (E:Env) (t:TypeId):Option Nat:=match tyOf E t with
 | some { td:=.slice e,.. }=>match tyOf E e with
  | some ti=>some ti.ty.size
  | none=>none
 | _=>none
def isStrTy (E:Env) (t:TypeId):Bool:=match tyOf E t with
 | some { td:=.data,ty:=.str,.. }=>true
 | _=>false
def isSliceTy (E:Env) (t:TypeId):Bool:=match tyOf E t with
 | some { td:=.slice _,.. }=>true
 | _=>false
def szIs (z:Option Nat) (t:Ty):Bool:=match z with
 | some n=>n == t.size
 | none=>false
abbrev CB:=(g:FuncId) → List (Nat × Nat) → Objs → (gs:List (Bool × Ty)) → (r:Ty) → gsDen gs → Option r.den
def gatherIns (cb:CB) (os:Objs):(ps:List PIn) → List SV → Option (insDen ps × List Nat × List Nat)
 | [],[]=>some ((),[],[])
 | .imm b t :: ps,v :: vs=>match v.leaves with
  | some (b',ls)=>if b' == b then match getImm os t ls with
   | some (x,L,[])=>match gatherIns cb os ps vs with
    | some (y,M,W)=>some ((x,y),L ++ M,W)
    | none=>none
   | _=>none else none
  | none=>none
 | .mut b t :: ps,v :: vs=>match v.leaves with
  | some (b',ls)=>if b' == b then match getMut os t ls with
   | some (x,L,[])=>match gatherIns cb os ps vs with
    | some (y,M,W)=>some ((x,y),M,L ++ W)
    | none=>none
   | _=>none else none
  | none=>none
 | .clo gs r :: ps,.one (.fn g caps) :: vs=>match gatherIns cb os ps vs with
  | some (y,M,W)=>some ((cb g caps os gs r,y),List.range os.length ++ M,W)
  | none=>none
 | .clo gs r :: ps,.one (.clo gs' r' p) :: vs=>if h:gs' = gs ∧ r' = r then match gatherIns cb os ps vs with
  | some (y,M,W)=>some ((h.1 ▸ h.2 ▸ p,y),List.range os.length ++ M,W)
  | none=>none else none
 | .ptr t :: ps,.one (.ptr l off) :: vs=>if Nat.beq off 0 then match obj os l with
  | .box ls=>match getImm os t ls with
   | some (x,L,[])=>match gatherIns cb os ps vs with
    | some (y,M,W)=>some ((x,y),L ++ M,l :: W)
    | none=>none
   | _=>none
  | _=>none else none
 | _,_=>none
def putMuts (L:List Nat) (os:Objs):(ps:List PIn) → mutsDen ps → List SV → Option Objs
 | [],_,_=>some os
 | .mut _ t :: ps,y,v :: vs=>match v.leaves with
  | some (_,ls)=>match putMut os t y.1 ls with
   | some (os',[])=>putMuts L os' ps y.2 vs
   | _=>none
  | none=>none
 | .imm _ _ :: ps,y,_ :: vs=>putMuts L os ps y vs
 | .clo _ _ :: ps,y,_ :: vs=>putMuts L os ps y vs
 | .ptr t :: ps,y,.one (.ptr l _) :: vs=>putMuts L (os.set l (.box (explode t y.1 L))) ps y.2 vs
 | _,_,_=>none
def deepLeaves:(t:Ty) → t.den → Nat → List Leaf × Objs
 | .pair a b,x,n=>((deepLeaves a x.1 n).1 ++ (deepLeaves b x.2 (n + (deepLeaves a x.1 n).2.length)).1,(deepLeaves a x.1 n).2 ++ (deepLeaves b x.2 (n + (deepLeaves a x.1 n).2.length)).2)
 | .unit,_,_=>([],[])
 | .int k,x,_=>([.val (.int k) x []],[])
 | .bool,x,_=>([.val .bool x []],[])
 | .str,x,_=>([.val .str x []],[])
 | .slice e t,x,n=>([.own n],[.row e t x true []])
def outLeaves (L:List Nat):(ps:List POut) → outsDen ps → Nat → List (Bool × List Leaf) × Objs
 | [],_,_=>([],[])
 | .imm b t :: ps,y,n=>((b,explode t y.1 L) :: (outLeaves L ps y.2 n).1,(outLeaves L ps y.2 n).2)
 | .deep b t :: ps,y,n=>
  ((b,(deepLeaves t y.1 n).1) :: (outLeaves L ps y.2 (n + (deepLeaves t y.1 n).2.length)).1,
   (deepLeaves t y.1 n).2 ++ (outLeaves L ps y.2 (n + (deepLeaves t y.1 n).2.length)).2)
def immOuts:List POut → List POut
 | []=>[]
 | .imm b t :: ps=>.imm b t :: immOuts ps
 | .deep b t :: ps=>.imm b t :: immOuts ps
def toImm:(ps:List POut) → outsDen ps → outsDen (immOuts ps)
 | [],y=>y
 | .imm _ _ :: ps,y=>(y.1,toImm ps y.2)
 | .deep _ _ :: ps,y=>(y.1,toImm ps y.2)
def wantsImm (L:List Nat):Option Tmp → Bool
 | some d=>has L d
 | none=>false
def packOuts:List (Bool × List Leaf) → SV
 | [(b,ls)]=>packSV b ls
 | vs=>.tup vs
def callV (im:Bool) (cb:CB) (os:Objs) (s:FSpec) (args:List SV):Tree (SV × Objs):=
 match gatherIns cb os s.ins args with
 | none=>.fail
 | some (x,L,_)=>.bind (s.fn x) fun y=>match im with
  | true=>.ret (packOuts (outLeaves L (immOuts s.outs) (toImm s.outs y.1) 0).1,[])
  | false=>.ret (packOuts (outLeaves L s.outs y.1 os.length).1,(outLeaves L s.outs y.1 os.length).2)
def callM (cb:CB) (st:St) (d:Option Tmp) (s:FSpec) (args:List SV):Tree St:=
 match gatherIns cb st.objs s.ins args with
 | none=>.fail
 | some (x,L,W)=>
  if noDup W && L.all (fun l=>!has W l) && W.all (fun l=>!Nat.blt l st.ro) && s.ins.all (fun p=>!p.isClo) then
   .bind (s.fn x) fun y=>match st.killAll false W with
    | none=>.fail
    | some st'=>match putMuts L st'.objs s.ins y.2 args with
     | none=>.fail
     | some os=>.ret (({ st' with objs:=os ++ (outLeaves L s.outs y.1 os.length).2 }).put d (packOuts (outLeaves L s.outs y.1 os.length).1))
  else .fail
def getArgs (os:Objs):(gs:List (Bool × Ty)) → List SV → Option (gsDen gs)
 | [],[]=>some ()
 | (b,t) :: gs,v :: vs=>match v.leaves with
  | some (b',ls)=>if b' == b then match getImm os t ls with
   | some (x,_,[])=>match getArgs os gs vs with
    | some y=>some (x,y)
    | none=>none
   | _=>none else none
  | none=>none
 | _,_=>none
def callClo (os:Objs) (gs:List (Bool × Ty)) (r:Ty) (p:gsDen gs → Option r.den) (args:List SV):Tree (SV × Objs):=
 match getArgs os gs args with
 | some x=>.bind (p x) fun y=>if r.flat then match explode r y [] with
  | [c]=>.ret (.one c,[])
  | _=>.fail else .fail
 | none=>.fail
def pure1 (t:Tree SV):Tree (SV × Objs):=t.map fun v=>(v,[])
def ret1 (v:SV):Tree (SV × Objs):=.ret (v,[])
def mkRow (os:Objs) (e:TypeId) (t:Ty) (xs:List t.den) (deep:Bool) (L:List Nat):Tree (SV × Objs):=
 .ret (.one (.own os.length),[.row e t xs deep L])
def fillStep (fs:List FI) (ρ:Operand → SV) (acc:Option (List Leaf)) (p:Nat × Operand):Option (List Leaf):=
 match acc,fs[p.1]?,(ρ p.2).leaves with
 | some cs,some fi,some (_,ls)=>if ls.length == fi.size && ls.all Leaf.known then putLeaves cs fi.off ls else none
 | _,_,_=>none
def ptrOf:Leaf → Option (Nat × Nat)
 | .ptr l off=>some (l,off)
 | _=>none
def Leaf.free:Leaf → Bool
 | .own _ | .sub _ _ _ | .ptr _ _ | .oela _ _ _ | .view _ _ _ | .oel2 _ _ _ _ _=>false
 | _=>true
def SV.free:SV → Bool
 | .one c=>c.free
 | .agg cs=>cs.all Leaf.free
 | .tup vs=>vs.all fun p=>p.2.all Leaf.free
def stepV (E:Env) (cb:CB) (ρ:Operand → SV) (os:Objs) (o:Oper):Tree (SV × Objs):=
 match o.op with
 | .move x=>ret1 (ρ x)
 | .assign x=>match ρ x with
  | .one .nilS=>match tyOf E o.type with
   | some { td:=.slice e,.. }=>match tyOf E e with
    | some ti=>mkRow os e ti.ty [] true []
    | none=>.fail
   | _=>.fail
  | v=>ret1 v
 | .pick c a b=>match (ρ c).leaf with
  | .val .bool x _=>.ite x (ret1 (ρ a)) (ret1 (ρ b))
  | _=>.fail
 | .binOp op t x y _=>pure1 (bin E.eqs (isBoolTy E t) op t (ρ x) (ρ y))
 | .unOp op _ x=>pure1 (un op (ρ x))
 | .load t a=>match tyOf E t with
  | some ti=>match loadOp os ti (ρ a).leaf with
   | some v=>ret1 v
   | none=>.fail
  | none=>.fail
 | .fieldAddr s x f=>match tyOf E s with
  | some { td:=.struct fs,.. }=>match fs[f]? with
   | some fi=>if fi.size == 0 then .fail else match (ρ x).leaf with
    | .ptr l off=>ret1 (.one (.ptr l (off + fi.off)))
    | .ela t xs i off L=>ret1 (.one (.ela t xs i (off + fi.off) L))
    | .oela l i off=>ret1 (.one (.oela l i (off + fi.off)))
    | .oel2 l i off j o2=>ret1 (.one (.oel2 l i off j (o2 + fi.off)))
    | _=>.fail
   | none=>.fail
  | _=>.fail
 | .indexAddr T x i=>match (ρ i).leaf with
  | .val (.int _) n _=>match (ρ x).leaf with
   | .val (.slice _ t) xs L=>if !szIs (elemSz E T) t then .fail else .need (decide (0 ≤ (n:Int))) (.need (decide ((n:Int) < xs.length)) (ret1 (.one (.ela t xs n 0 L))))
   | .own l=>match obj os l with
    | .row _ t xs _ _=>if !szIs (elemSz E T) t then .fail else .need (decide (0 ≤ (n:Int))) (.need (decide ((n:Int) < xs.length)) (ret1 (.one (.oela l n 0))))
    | _=>.fail
   | .sub l j off=>match sliceTy os (.sub l j off) with
    | some t=>match sliceData os t (.sub l j off) with
     | some (xs,L)=>if !szIs (elemSz E T) t then .fail else .need (decide (0 ≤ (n:Int))) (.need (decide ((n:Int) < xs.length)) (ret1 (.one (.oel2 l j off n 0))))
     | none=>.fail
    | none=>.fail
   | _=>.fail
  | _=>.fail
 | .index T x i=>match (ρ x).leaf,(ρ i).leaf with
  | .val .str s _,.val (.int _) n _=>if !isStrTy E T then .fail else .need (decide (0 ≤ (n:Int))) (.need (decide ((n:Int) < s.size)) (ret1 (vint .u8 (bt s n))))
  | _,_=>.fail
 | .field s x f=>match tyOf E s,ρ x with
  | some { td:=.struct fs,.. },.agg cs=>match fs[f]? with
   | some fi=>match tyOf E fi.type with
    | some ti=>
     if ((cs.drop fi.off).take fi.size).length == fi.size && fi.size == ti.ty.size then ret1 (packSV ti.agg ((cs.drop fi.off).take fi.size)) else .fail
    | none=>.fail
   | none=>.fail
  | _,_=>.fail
 | .extract x i=>match ρ x with
  | .tup vs=>match vs[i]? with
   | some (b,cs)=>ret1 (packSV b cs)
   | none=>.fail
  | _=>.fail
 | .build t parts=>match tyOf E t with
  | some { td:=.struct fs,ty,.. }=>
   match parts.toList.foldl (fillStep fs ρ) (some (zeroLeaves ty)) with
   | some cs=>ret1 (.agg cs)
   | none=>.fail
  | _=>.fail
 | .buildSlice t n parts=>match tyOf E t with
  | some { td:=.slice e,.. }=>match tyOf E e with
   | some ti=>
    if decide (n * ti.ty.size ≤ 16777216) && Nat.blt 0 ti.ty.size && n == parts.toList.length then
    match wantsImm E.imm o.dst && parts.toList.all (fun p=>(ρ p.2).free) with
    | true=>match partsOf ti.ty os false (parts.toList.map fun p=>(p.1,ρ p.2)) 0 with
     | some (xs,L)=>ret1 (.one (.val (.slice e ti.ty) xs L))
     | none=>.fail
    | false=>match partsOf ti.ty os true (parts.toList.map fun p=>(p.1,ρ p.2)) 0 with
    | some (xs,[])=>mkRow os e ti.ty xs true []
    | _=>match partsOf ti.ty os false (parts.toList.map fun p=>(p.1,ρ p.2)) 0 with
     | some (xs,L)=>mkRow os e ti.ty xs false L
     | none=>.fail
    else .fail
   | none=>.fail
  | _=>.fail
 | .makeSlice t n c=>match tyOf E t,(ρ n).leaf,(ρ c).leaf with
  | some { td:=.slice e,.. },.val (.int .i64) x _,.val (.int .i64) y _=>match tyOf E e with
   | some ti=>if Nat.blt 0 ti.ty.size && Nat.blt 0 ti.bytes then .need (decide (0 ≤ (x:Int))) (.need (@BEq.beq Int _ x y) (.need (decide ((x:Int) * ti.bytes ≤ 140737488355328)) (mkRow os e ti.ty (List.replicate (x:Int).toNat ti.ty.zero) true []))) else .fail
   | none=>.fail
  | _,_,_=>.fail
 | .alloc t=>match tyOf E t with
  | some ti=>.ret (.one (.ptr os.length 0),[.box (zeroLeaves ti.ty)])
  | none=>.fail
 | .box t x=>match tyOf E t,(ρ x).leaves with
  | some ti,some (_,ls)=>if ls.length == ti.ty.size && ls.all Leaf.known then .ret (.one (.ptr os.length 0),[.box ls]) else .fail
  | _,_=>.fail
 | .makeFunc (.func f) first caps=>
  if first.size == 0 then
   match caps.toList.mapM (fun x=>ptrOf (ρ x).leaf) with
   | some cs=>ret1 (.one (.fn f cs))
   | none=>.fail
  else .fail
 | .nilCheck x=>match (ρ x).leaf with
  | .ptr l off=>ret1 (.one (.ptr l off))
  | .oela l i off=>ret1 (.one (.oela l i off))
  | .ela t xs i off L=>ret1 (.one (.ela t xs i off L))
  | .oel2 l i off j o2=>ret1 (.one (.oel2 l i off j o2))
  | _=>.fail
 | .slice T x lo hi none=>pure1 (sliceOpV E.views (isStrTy E T) (szIs (elemSz E T)) ρ os (ρ x) lo hi)
 | .convert src dst x=>match tyOf E src,tyOf E dst,(ρ x).leaf with
  | some { td:=.data,ty:=.int _,.. },some { td:=.data,ty:=.int k,.. },.val (.int _) n _=>ret1 (vint k (k.wrap n))
  | some { td:=.slice e,.. },some { td:=.data,ty:=.str,.. },c=>match tyOf E e with
   | some { td:=.data,ty:=.int .u8,.. }=>match sliceTy os c with
    | some (.int .u8)=>match sliceData os (.int .u8) c with
     | some (xs,_)=>ret1 (vstr (strOf xs))
     | none=>.fail
    | _=>.fail
   | _=>.fail
  | _,_,_=>.fail
 | .call c=>match c.callee with
  | .builtin .len=>match c.args.toList,c.argTypes.toList with
   | [x],[T]=>match lenOp (isStrTy E T) (isSliceTy E T) os (ρ x) with
    | some n=>ret1 (vint .i64 n)
    | none=>.fail
   | _,_=>.fail
  | .builtin .max=>match c.args.toList.map fun x=>(ρ x).leaf with
   | [.val (.int k) a _,.val (.int j) b _]=>if kindEq k j then ret1 (vint k (if (a:Int) < b then b else a)) else .fail
   | _=>.fail
  | .builtin .min=>match c.args.toList.map fun x=>(ρ x).leaf with
   | [.val (.int k) a _,.val (.int j) b _]=>if kindEq k j then ret1 (vint k (if (b:Int) < a then b else a)) else .fail
   | _=>.fail
  | .value f=>match (ρ f).leaf with
   | .fn g []=>match assoc E.sig g with
    | some s=>if s.ins.any PIn.isMut then .fail else callV (wantsImm E.imm o.dst) cb os s (c.args.toList.map ρ)
    | none=>.fail
   | .clo gs r p=>callClo os gs r p (c.args.toList.map ρ)
   | _=>.fail
  | _=>.fail
 | _=>.fail
def filterO {α:Type} (p:α → Option Bool):List α → Option (List α)
 | []=>some []
 | x :: r=>match p x with
  | some b=>match filterO p r with
   | some ys=>some (if b then ys else x :: ys)
   | none=>none
  | none=>none
def sortLt (n:Nat) (m:Nat → Nat → Int) (i j:Nat):Bool:=decide (m (min i (n - 1)) (min j (n - 1)) < 0)
def sortIdx (n:Nat) (m:Nat → Nat → Int):List Nat:=(Go.Sort.pdq (sortLt n m) (List.range n).toArray 0 n (Go.Lib.bitLen n) true true).toList
def sortM {α:Type} (p:α → α → Option Int) (xs:List α) (i j:Nat):Int:=match xs[i]?,xs[j]? with
 | some x,some y=>(p x y).getD 0
 | _,_=>0
def lessO {α:Type} (p:α → α → Option Int) (x y:α):Bool:=decide ((p x y).getD 0 < 0)
def sortOk {α:Type} (p:α → α → Option Int) (xs:List α):Bool:=
 decide (xs.length < 4611686018427387904) && xs.all fun x=>!lessO p x x && xs.all fun y=>(p x y).isSome && xs.all fun z=>(!(lessO p x y && lessO p y z) || lessO p x z) && (lessO p x y || lessO p y z || !lessO p x z)
def sortO {α:Type} (p:α → α → Option Int) (xs:List α):Option (List α):=
 if sortOk p xs then some ((sortIdx xs.length (sortM p xs)).filterMap fun i=>xs[i]?) else none
def rowArg (cb:CB) (os:Objs) (gs:List (Bool × Ty)) (r:Ty):SV → Option (gsDen gs → Option r.den)
 | .one (.fn g caps)=>some (cb g caps os gs r)
 | .one (.clo gs' r' p)=>if h:gs' = gs ∧ r' = r then some (h.1 ▸ h.2 ▸ p) else none
 | _=>none
def rowRes (cb:CB) (os:Objs) (ri:RInfo) (t:Ty) (xs:List t.den) (args:List SV):Tree (List t.den):=
 match ri.k,args with
 | .filter,[c]=>match rowArg cb os [(ri.ag,t)] .bool c with
  | some p=>.bind (filterO (fun x=>p (x,())) xs) .ret
  | none=>.fail
 | .cut,[i,j]=>match i.leaf,j.leaf with
  | .val (.int .i64) i _,.val (.int .i64) j _=>.need (decide (0 ≤ (i:Int))) (.need (decide ((i:Int) ≤ (j:Int))) (.need (decide ((j:Int) ≤ xs.length)) (.ret (xs.take (i:Int).toNat ++ xs.drop (j:Int).toNat))))
  | _,_=>.fail
 | .sort,[c]=>match rowArg cb os [(ri.ag,t),(ri.ag,t)] (.int .i64) c with
  | some p=>.bind (sortO (fun x y=>p (x,(y,()))) xs) .ret
  | none=>.fail
 | _,_=>.fail
def RK.hands:RK → Bool
 | .cut=>false
 | .filter=>true
 | .sort=>true
def RK.keeps:RK → Bool
 | .sort=>true
 | _=>false
def cutT (okT:Ty → Bool) (st:St) (d:Option Tmp) (l:Nat) (lo hi:Option Operand):Tree St:=
 if Nat.blt l st.ro || Nat.blt l st.fx then .fail else
 match obj st.objs l with
 | .row e t xs dp L=>if okT t then match bnd st.ev 0 lo,bnd st.ev (xs.length:Int) hi with
  | some i,some j=>.need (decide (0 ≤ j)) (.need (decide (j ≤ xs.length)) (.need (decide (0 ≤ i)) (.need (decide (i ≤ j)) (match st.kill true l with
   | some st1=>.ret (({ st1 with objs:=st1.objs.set l (.row e t ((xs.take j.toNat).drop i.toNat) dp L) }).put d (.one (.own l)))
   | none=>.fail))))
  | _,_=>.fail
  else .fail
 | _=>.fail
def rowT (cb:CB) (st:St) (d:Option Tmp) (ri:RInfo):List SV → Tree St
 | .one (.own l) :: r=>if Nat.blt l st.ro || Nat.blt l st.fx || (ri.k.hands && !Nat.beq st.fx 0) then .fail else
  match obj st.objs l with
  | .row e t xs deep L=>if e == ri.e && t.size == ri.size && Nat.blt 0 t.size && (ri.ag || Nat.beq t.size 1) then
   match st.kill true l with
   | some st1=>match (if ri.k.keeps then st.kill false l else some st1) with
    | some st2=>(rowRes cb (st1.objs.set l .dead) ri t xs r).map fun ys=>({ st2 with objs:=st2.objs.set l (.row e t ys deep L) }).put d (if ri.k.keeps then .tup [] else .one (.own l))
    | none=>.fail
   | none=>.fail
   else .fail
  | _=>.fail
 | _=>.fail
def stepW (E:Env) (cb:CB) (st:St) (o:Oper):Option (Tree St):=
 match o.op with
 | .store t a x=>some (match o.dst,tyOf E t with
  | none,some ti=>Tree.ofOpt (storeOp st ti (st.ev a).leaf (st.ev x))
  | _,_=>.fail)
 | .buildSlice t n parts=>match tyOf E t with
  | some { td:=.slice e,.. }=>match tyOf E e with
   | some ti=>match partsOf ti.ty st.objs true (parts.toList.map fun p=>(p.1,st.ev p.2)) 0 with
    | some (xs,m :: M)=>if E.brw || !(m :: M).all (fun k=>!Nat.blt k st.ro && !Nat.blt k st.fx) then none else some (if decide (n * ti.ty.size ≤ 16777216) && Nat.blt 0 ti.ty.size && n == parts.toList.length && !Nat.blt st.objs.length st.ro && !Nat.blt st.objs.length st.fx then
     match ({ st with objs:=st.objs ++ [AObj.row e ti.ty [] true []] }).move (m :: M) true st.objs.length with
     | some st'=>.ret (({ st' with objs:=(deadAll (m :: M) st'.objs).set st.objs.length (.row e ti.ty xs true []) }).put o.dst (.one (.own st.objs.length)))
     | none=>.fail else .fail)
    | _=>none
   | none=>none
  | _=>none
 | .call c=>match c.callee with
  | .builtin .append=>some (match c.args.toList,c.argTypes.toList with
   | [s,x],[t,u]=>if t == u then match tyOf E t with
    | some { td:=.slice e,.. }=>match tyOf E e with
     | some ti=>match (st.ev s).leaf with
      | .own l=>appendTo st o.dst e ti l (st.ev x).leaf
      | .nilS=>appendTo { st with objs:=st.objs ++ [AObj.row e ti.ty [] true []] } o.dst e ti st.objs.length (st.ev x).leaf
      | _=>.fail
     | none=>.fail
    | _=>.fail else .fail
   | _,_=>.fail)
  | .builtin .copy=>some (match c.args.toList,c.argTypes.toList with
   | [y,x],[t,u]=>match tyOf E t with
    | some { td:=.slice e,.. }=>match tyOf E e with
     | some ti=>if ti.ty.size == 1 then match dstOf st.objs (st.ev y).leaf with
      | some (l,lo,hi)=>copyTo st o.dst l lo hi (st.ev x).leaf
      | none=>.fail
      else .fail
     | none=>.fail
    | _=>.fail
   | _,_=>.fail)
  | .value f=>match (st.ev f).leaf with
   | .fn g []=>match assoc E.rfn g with
    | some ri=>some (rowT cb st o.dst ri (c.args.toList.map st.ev))
    | none=>match assoc E.sig g with
     | some s=>if s.ins.any PIn.isMut then some (callM cb st o.dst s (c.args.toList.map st.ev)) else none
     | none=>none
   | _=>none
  | _=>none
 | .slice T x lo hi none=>match st.ev x,wantsImm E.rsl o.dst with
  | .one (.own l),true=>some (cutT (szIs (elemSz E T)) st o.dst l lo hi)
  | _,_=>none
 | .alloc t=>match o.dst with
  | some d=>match assoc E.slots d with
   | some l=>some (match tyOf E t with
    | some ti=>match obj st.objs l with
     | .dead=>if Nat.blt l st.objs.length && !Nat.blt l st.ro && !Nat.blt l st.fx then .ret (({ st with objs:=st.objs.set l (.box (zeroLeaves ti.ty)) }).put (some d) (.one (.ptr l 0))) else .fail
     | _=>.fail
    | none=>.fail)
   | none=>none
  | none=>none
 | _=>none
def clsV (E:Env) (ρ:Operand → SV) (o:Oper) (os:Objs):Nat:=
 match os with
 | _ :: _=>2
 | []=>match o.op with
  | .load _ a=>if (ρ a).leaf.free then 0 else 1
  | .indexAddr _ x _=>if (ρ x).leaf.free then 0 else 1
  | .slice _ x _ _ _=>if (ρ x).leaf.free then 0 else 1
  | .convert _ _ x=>if (ρ x).leaf.free then 0 else 1
  | .call c=>match c.callee with
   | .builtin .len=>if c.args.toList.all (fun x=>(ρ x).leaf.free) then 0 else 1
   | .value f=>match (ρ f).leaf with
    | .fn g []=>match assoc E.sig g with
     | some s=>if s.ins.any PIn.isClo then 2 else if c.args.toList.all (fun x=>(ρ x).free) then 0 else 1
     | none=>2
    | _=>1
   | _=>0
  | _=>0
def handsClo (E:Env) (ρ:Operand → SV) (o:Oper):Bool:=
 match o.op with
 | .call c=>match c.callee with
  | .value f=>match (ρ f).leaf with
   | .fn g []=>match assoc E.sig g with
    | some s=>s.ins.any PIn.isClo
    | none=>false
   | .clo _ _ _=>true
   | _=>false
  | _=>false
 | _=>false
def Leaf.firm:Leaf → Bool
 | .undef | .skip=>false
 | _=>true
def Leaf.on:Leaf → List Nat
 | .val _ _ L | .ela _ _ _ _ L=>L
 | .sub k _ _ | .oel2 k _ _ _ _=>[k]
 | _=>[]
def Leaf.men:Leaf → List Nat
 | .own k | .oela k _ _ | .view k _ _ | .ptr k _=>[k]
 | .fn _ caps=>caps.map (·.1)
 | _=>[]
def Leaf.code (c:Leaf):List Nat:=c.on.map (2 * ·) ++ c.men.map (2 * · + 1)
def codes (hd:Bool) (W:List Nat):List Nat:=W.flatMap fun l=>if hd then [2 * l,2 * l + 1] else [2 * l]
def SV.firm:SV → Bool
 | .one c=>c.firm
 | .agg cs=>cs.all Leaf.firm
 | .tup vs=>vs.all fun p=>p.2.all Leaf.firm
def SV.code:SV → List Nat
 | .one c=>c.code
 | .agg cs=>cs.flatMap Leaf.code
 | .tup vs=>vs.flatMap fun p=>p.2.flatMap Leaf.code
def maskOf (W:List Nat):Nat:=W.foldl (fun a l=>a ||| 2 ^ (l + 1)) 0
def onAll (ρ:Operand → SV) (o:Oper) (v:SV):List Nat:=v.code ++ o.op.operands.toList.flatMap fun x=>(ρ x).code
def lookOf (ρ:Operand → SV) (o:Oper):Option (Nat × Bool × Bool):=
 match o.op with
 | .load _ a=>match (ρ a).leaf with
  | .ptr l _=>some (l,false,true)
  | .oela l _ _=>some (l,false,false)
  | .oel2 l _ _ _ _=>some (l,false,false)
  | _=>none
 | .indexAddr _ x _=>match (ρ x).leaf with
  | .own l=>some (l,true,true)
  | .sub l _ _=>some (l,false,false)
  | _=>none
 | _=>none
def lookBit (p:Nat × Bool × Bool):Nat:=if p.2.1 then 2 * p.1 + 1 else 2 * p.1
def mkV (ρ:Operand → SV) (o:Oper) (v:SV) (c:Nat):Nat:=
 if o.op.operands.toList.all (fun x=>(ρ x).firm) && v.firm then
  match c with
  | 0=>1 ||| maskOf (onAll ρ o v)
  | 1=>match lookOf ρ o with
   | some p=>(if p.2.2 then 1 else 0) ||| maskOf (lookBit p :: onAll ρ o v)
   | none=>0
  | _=>0
 else 0
def mkS (st:St) (o:Oper) (v:SV) (c:Nat):Nat:=if Nat.beq c 2 then st.objs.length else mkV st.ev o v c
def appCls (os:Objs) (l:Nat) (x:Leaf):Nat:=
 match obj os l with
 | .row e' t _ deep _=>if t.flat then 7 + 8 * maskOf (codes true [l]) else
  match deep,x with
  | true,.nilS=>7 + 8 * maskOf (codes true [l])
  | true,.own m=>match obj os m with
   | .row e2 t2 _ true _=>if e2 == e' && decide (t2 = t) then 7 + 8 * maskOf (codes true [m,l]) else 3
   | _=>3
  | _,_=>3
 | _=>3
def wcls (E:Env) (cb:CB) (ρ:Operand → SV) (os:Objs) (o:Oper):Nat:=match o.op with
 | .buildSlice t _ parts=>match tyOf E t with
  | some { td:=.slice e,.. }=>match tyOf E e with
   | some ti=>match partsOf ti.ty os true (parts.toList.map fun p=>(p.1,ρ p.2)) 0 with
    | some (_,m :: M)=>7 + 8 * maskOf (codes true (m :: M ++ [os.length]))
    | _=>3
   | none=>3
  | _=>3
 | .call c=>match c.callee with
  | .builtin .copy=>4
  | .builtin .append=>match c.args.toList with
   | [s,x]=>match (ρ s).leaf with
    | .own l=>appCls os l (ρ x).leaf
    | _=>3
   | _=>3
  | .value f=>match (ρ f).leaf with
   | .fn g []=>match assoc E.rfn g with
    | some _=>3
    | none=>match assoc E.sig g with
     | some s=>match gatherIns cb os s.ins (c.args.toList.map ρ) with
      | some (_,_,W)=>6 + 8 * maskOf (codes false W)
      | none=>3
     | none=>3
   | _=>3
  | _=>3
 | .store _ a _=>match (ρ a).leaf with
  | .ptr l _=>5 + 8 * maskOf (codes false [l])
  | _=>3
 | .alloc _=>match o.dst with
  | some d=>match assoc E.slots d with
   | some l=>7 + 8 * maskOf (codes true [l])
   | none=>3
  | none=>3
 | _=>3
theorem wcls_ge (E:Env) (cb:CB) (ρ:Operand → SV) (os:Objs) (o:Oper):3 ≤ wcls E cb ρ os o % 8:=by
 unfold wcls appCls
 repeat' split
 all_goals omega
def isMove (o:Oper):Bool:=match o.op,o.guard with
 | .move (.tmp _),none=>true
 | _,_=>false
def isPick (o:Oper):Bool:=match o.op,o.guard with
 | .move (.tmp _),none=>true
 | .extract (.tmp _) _,none=>true
 | _,_=>false
def step (E:Env) (cb:CB) (st:St) (o:Oper):Tree (St × Nat):=
 match stepW E cb st o with
 | some t=>t.map fun st'=>(st',wcls E cb st.ev st.objs o)
 | none=>if handsClo E st.ev o && !Nat.beq st.fx 0 then .fail else (stepV E cb st.ev st.objs o).map fun v=>({ st with regs:=setReg st.regs o.dst v.1,objs:=st.objs ++ v.2 },clsV E st.ev o v.2 + 8 * mkS st o v.1 (clsV E st.ev o v.2))
def isSrc (ops:List Oper) (i:Nat):Bool:=ops.any fun o=>match o.guard with | some (j,_)=>j == i | none=>false
def guardOk (ops:List Oper) (st:St) (o:Oper):Option Bool:=
 match o.guard with
 | none=>some true
 | some (j,want)=>match ops[j]? with
  | some p=>match p.dst with
   | some d=>match st.reg d with
    | .one (.val .bool b _)=>some (b == want)
    | .one .skip=>some false
    | _=>none
   | none=>none
  | none=>none
def split {ρ:Type} (src:Bool) (st:St) (d:Option Tmp) (K:St → Option ρ):Option ρ:=
 if src then match d with
  | some t=>match st.reg t with
   | .one (.val .bool b L)=>if b then K (st.put d (.one (.val .bool true L))) else K (st.put d (.one (.val .bool false L)))
   | _=>K st
  | none=>K st
 else K st
def forceN {α:Type} (n:Nat) (K:Nat → α):α:=
 match n with
 | 0=>K 0
 | n + 1=>K (n + 1)
theorem forceN_eq {α:Type} (n:Nat) (K:Nat → α):forceN n K = K n:=by cases n <;> rfl
abbrev Pend:=Nat × Int × Nat
def sliceTI (E:Env) (t:TypeId):Option (TypeId × TI):=match tyOf E t with
 | some { td:=.slice e,.. }=>match tyOf E e with
  | some ti=>some (e,ti)
  | none=>none
 | _=>none
def appSub (st:St) (e:TypeId) (ti:TI) (l:Nat) (i:Int) (off m:Nat):Tree St:=
 if Nat.blt l st.ro || (Nat.blt l st.fx || (Nat.blt m st.ro || (Nat.blt m st.fx || Nat.beq l m))) then .fail else
 match obj st.objs l,obj st.objs m with
 | .row e1 t xs true L,.row e2 u zs true _=>match leafAt t (rd xs i t.zero) off with
  | some ⟨.slice e' u',ys⟩=>match castL u u' zs with
   | some zs'=>if e' == e && (e2 == e && (u'.size == ti.ty.size && (Nat.blt 0 u'.size && Nat.blt 0 ti.bytes))) then
     .need (decide ((List.length ys + zs.length) * ti.bytes ≤ 140737488355328)) (match setAt t (rd xs i t.zero) off (.slice e' u') (ys ++ zs') with
      | some z=>match st.move [m] false l with
       | some st1=>.ret { st1 with objs:=(deadAll [m] st1.objs).set l (.row e1 t (xs.set i.toNat z) true L) }
       | none=>.fail
      | none=>.fail)
    else .fail
   | none=>.fail
  | _=>.fail
 | _,_=>.fail
def appT (E:Env) (st:St) (o:Oper):Tree (St × Pend):=
 match o.op with
 | .call c=>match c.callee,c.args.toList,c.argTypes.toList with
  | .builtin .append,[s,x],[t,u]=>if t == u then match sliceTI E t,(st.ev s).leaf,(st.ev x).leaf with
    | some (e,ti),.sub l i off,.own m=>(appSub st e ti l i off m).map fun st'=>(st'.put o.dst (.one (.sub l i off)),(l,i,off))
    | _,_,_=>.fail
   else .fail
  | _,_,_=>.fail
 | _=>.fail
def appMsk (st:St) (o:Oper):Nat:=
 match o.op with
 | .call c=>match c.args.toList with
  | [s,x]=>match (st.ev s).leaf,(st.ev x).leaf with
   | .sub l _ _,.own m=>3 + 8 * maskOf (codes false [l] ++ codes true [m])
   | _,_=>3
  | _=>3
 | _=>3
def commitT (E:Env) (st:St) (o:Oper) (p:Pend):Tree St:=
 match o.op with
 | .store t a x=>match o.dst,tyOf E t,(st.ev a).leaf,st.ev x with
  | none,some ti,.oela l i off,.one (.sub l2 i2 off2)=>if l == p.1 && (l2 == p.1 && (off == p.2.2 && (off2 == p.2.2 && ti.ty.size == 1))) then .need (decide (i = p.2.1)) (.need (decide (i2 = p.2.1)) (.ret st)) else .fail
  | _,_,_,_=>.fail
 | _=>.fail
def blindB0 (o:Oper):Bool:=match o.op with
 | .move _ | .fieldAddr _ _ _ | .nilCheck _=>true
 | _=>false
def blindB1 (o:Oper):Bool:=match o.op with
 | .load _ _ | .indexAddr _ _ _=>true
 | _=>false
def blindK0 (o:Oper):Bool:=o.guard.isNone && blindB0 o
def blindK1 (o:Oper):Bool:=o.guard.isNone && blindB1 o
def blindO (st:St) (o:Oper):Bool:=match o.op with
 | .move _=>true
 | .fieldAddr _ _ _=>true
 | .nilCheck _=>true
 | .load _ a=>match (st.ev a).leaf with
  | .ptr _ _=>true
  | _=>false
 | .indexAddr _ x _=>match (st.ev x).leaf with
  | .own _=>true
  | _=>false
 | _=>false
def runOps {ρ:Type} (E:Env) (cb:CB) (ops:List Oper):Nat → List Oper → List Nat → St → Option Pend → (List Nat → St → Option ρ) → Option ρ
 | _,[],cls,st,pd,K=>match pd with
  | none=>K cls st
  | some _=>none
 | i,o :: r,cls,st,pd,K=>match (match pd with | none=>!wantsImm E.app o.dst | some _=>blindO st o) with
  | true=>match guardOk ops st o with
   | some true=>(step E cb st o).run fun st'=>forceN st'.2 fun c=>split (isSrc ops i) st'.1 o.dst fun st''=>runOps E cb ops (i + 1) r (cls ++ [c]) st'' pd K
   | some false=>runOps E cb ops (i + 1) r (cls ++ [0]) (st.put o.dst (.one .skip)) pd K
   | none=>none
  | false=>match o.guard with
   | some _=>none
   | none=>match pd with
    | none=>(appT E st o).run fun s=>forceN (appMsk st o) fun c=>runOps E cb ops (i + 1) r (cls ++ [c]) s.1 (some s.2) K
    | some p=>(commitT E st o p).run fun st'=>runOps E cb ops (i + 1) r (cls ++ [3]) st' none K
def looksAt (ops:List Oper) (o:Oper):List Tmp:=
 (o.op.operands.toList.filterMap fun | .tmp t=>some t | _=>none) ++
 (match o.guard with
  | some (g,_)=>((ops[g]?).bind (·.dst)).toList
  | none=>[])
def dstIn (l:List Nat):Option Tmp → Bool
 | some d=>has l d
 | none=>false
def isAlloc (o:Oper):Bool:=match o.op,o.guard with
 | .alloc _,none=>true
 | _,_=>false
def callFlat (E:Env) (o:Oper):Bool:=match o.op with
 | .call c=>match c.callee with
  | .value (.func g)=>match assoc E.sig g with
   | some s=>s.ins.all fun p=>!p.isClo
   | none=>false
  | _=>false
 | _=>false
def statOk (ops:List Oper) (x y:Oper):Bool:=
 !dstIn (looksAt ops y) x.dst && !dstIn (looksAt ops x) y.dst && !dstIn x.dst.toList y.dst
def midOk (b0 b1:Bool) (c:Nat):Bool:=c / 8 != 0 && ((b0 && c % 8 == 0) || (b1 && (c % 8 == 1 && (c / 8) % 2 == 1)))
def clsOk (mv pk al ix iy b0 b1 gx gy:Bool) (cx cy:Nat):Bool:=
 match cx % 8,cy % 8 with
 | 0,3 | 1,3=>midOk b0 b1 cx && ((cx / 8) &&& (cy / 8)) == 0
 | 3,0 | 3,1=>midOk b0 b1 cy && ((cx / 8) &&& (cy / 8)) == 0
 | 0,0 | 0,1 | 0,2 | 1,0 | 1,1 | 1,2 | 2,0=>true
 | 0,4=>mv && cy == 4 && Nat.ble (cx / 8) 1
 | 2,7=>al && Nat.blt (cy / 8) (2 ^ (2 * (cx / 8) + 1))
 | 2,1=>cy / 8 != 0 && Nat.blt (cy / 8) (2 ^ (2 * (cx / 8) + 1))
 | 0,5=>(pk && cx / 8 == 0) || (gx && (cx / 8 != 0 && ((cx / 8) &&& (cy / 8)) == 0))
 | 1,6=>(gx && (!ix || ((cx / 8 / 2) &&& (cy / 8)) == 0)) && (cx / 8 != 0 && ((cx / 8) &&& (cy / 8)) == 0)
 | 1,5 | 0,6 | 0,7 | 1,7=>gx && (cx / 8 != 0 && ((cx / 8) &&& (cy / 8)) == 0)
 | 6,7=>al && ((cx / 8) &&& (cy / 8)) == 0
 | 6,1=>(gy && (!iy && (cy / 8) % 2 == 1)) && (cy / 8 != 0 && ((cx / 8) &&& (cy / 8)) == 0)
 | 5,0 | 6,0 | 7,0 | 5,1 | 7,1=>gy && (cy / 8 != 0 && ((cx / 8) &&& (cy / 8)) == 0)
 | _,_=>false
def isIx (o:Oper):Bool:=match o.op with
 | .indexAddr _ _ _=>true
 | _=>false
def midK (E:Env) (k:Oper → Bool) (x y:Oper):Bool:=(wantsImm E.app y.dst && (k x && !wantsImm E.app x.dst)) || (wantsImm E.app x.dst && (k y && !wantsImm E.app y.dst))
def mayPass (E:Env) (ops:List Oper) (x y:Oper) (cx cy:Nat):Bool:=
 statOk ops x y && clsOk (isMove x) (isPick x) (isAlloc y && callFlat E x) (isIx x) (isIx y) (midK E blindK0 x y) (midK E blindK1 x y) x.guard.isNone y.guard.isNone cx cy
def beforeBits (ops:List Oper):List Nat:=
 ops.foldl (fun acc o=>acc ++ [o.after.toList.foldl (fun s e=>if Region.binds .any e then s ||| 2 ^ e.on ||| acc.getD e.on 0 else s) 0]) []
def backOk (ops:List Oper):Bool:=
 (List.range ops.length).all fun j=>match ops[j]? with
  | some o=>o.after.toList.all fun e=>!Region.binds .any e || Nat.blt e.on j
  | none=>true
def statAll (ops:List Oper):Bool:=
 (List.range ops.length).all fun j=>(List.range j).all fun i=>
  ((beforeBits ops).getD j 0).testBit i || (match ops[i]?,ops[j]? with
   | some x,some y=>statOk ops x y
   | _,_=>false)
def freePairs (E:Env) (ops:List Oper):List (Nat × Nat × Bool × Bool × Bool × Bool × Bool × Bool × Bool × Bool × Bool):=
 (List.range ops.length).flatMap fun j=>(List.range j).filterMap fun i=>if ((beforeBits ops).getD j 0).testBit i then none else match ops[i]?,ops[j]? with
  | some x,some y=>some (i,j,isMove x,isPick x,isAlloc y && callFlat E x,isIx x,isIx y,midK E blindK0 x y,midK E blindK1 x y,x.guard.isNone,y.guard.isNone)
  | _,_=>none
def drawOk (E:Env) (ops:List Oper) (cls:List Nat):Bool:=
 backOk ops && (statAll ops && (freePairs E ops).all fun p=>clsOk p.2.2.1 p.2.2.2.1 p.2.2.2.2.1 p.2.2.2.2.2.1 p.2.2.2.2.2.2.1 p.2.2.2.2.2.2.2.1 p.2.2.2.2.2.2.2.2.1 p.2.2.2.2.2.2.2.2.2.1 p.2.2.2.2.2.2.2.2.2.2 (cls.getD p.1 3) (cls.getD p.2.1 3))
def slotsOf:List Oper → Nat → List (Nat × Nat)
 | [],_=>[]
 | o :: r,n=>match o.op,o.dst,o.guard with
  | .alloc _,some d,none=>(d,n) :: slotsOf r (n + 1)
  | _,_,_=>slotsOf r n
def runDraw {ρ:Type} (E:Env) (cb:CB) (ops:List Oper) (st:St) (K:St → Option ρ):Option ρ:=
 match E.res with
 | false=>runOps E cb ops 0 ops [] st none fun cls st'=>if drawOk E ops cls then K st' else none
 | true=>forceN st.objs.length fun n=>match slotsOf ops n with
  | []=>runOps E cb ops 0 ops [] st none fun cls st'=>if drawOk E ops cls then K st' else none
  | p :: r=>runOps { E with slots:=p :: r } cb ops 0 ops [] { st with objs:=st.objs ++ (p :: r).map fun _=>AObj.dead } none fun cls st'=>if drawOk E ops cls then K st' else none
@[reducible] def lsDen:List Leaf → Type
 | []=>Unit
 | .val t _ _ :: r=>t.den × lsDen r
 | .clo gs s _ :: r=>(gsDen gs → Option s.den) × lsDen r
 | _ :: r=>lsDen r
def lsGet:(ls:List Leaf) → lsDen ls
 | []=>()
 | .val _ x _ :: r=>(x,lsGet r)
 | .clo _ _ p :: r=>(p,lsGet r)
 | .undef :: r | .skip :: r | .nilS :: r | .own _ :: r | .sub _ _ _ :: r | .ptr _ _ :: r | .ela _ _ _ _ _ :: r | .oela _ _ _ :: r | .view _ _ _ :: r | .oel2 _ _ _ _ _ :: r | .fn _ _ :: r=>lsGet r
def lsPut:(ls:List Leaf) → lsDen ls → List Leaf
 | [],_=>[]
 | .val t _ L :: r,d=>.val t d.1 L :: lsPut r d.2
 | .clo a s _ :: r,d=>.clo a s d.1 :: lsPut r d.2
 | .nilS :: r,d=>.nilS :: lsPut r d
 | .own l :: r,d=>.own l :: lsPut r d
 | .ptr l o :: r,d=>.ptr l o :: lsPut r d
 | .fn f cs :: r,d=>.fn f cs :: lsPut r d
 | .undef :: r,d | .skip :: r,d | .sub _ _ _ :: r,d | .ela _ _ _ _ _ :: r,d | .oela _ _ _ :: r,d | .view _ _ _ :: r,d | .oel2 _ _ _ _ _ :: r,d=>.undef :: lsPut r d
def trimL (n:Nat) (L:List Nat):List Nat:=L.filter fun k=>Nat.blt k n
def lsExt (n:Nat):(ls ms:List Leaf) → Option (lsDen ls)
 | [],[]=>some ()
 | .val t _ L :: r,.val s y M :: q=>if L == M || (trimL n M).all (has L) then match Ty.cast s t y with
  | some z=>match lsExt n r q with
   | some d=>some (z,d)
   | none=>none
  | none=>none else none
 | .clo a b _ :: r,.clo a' b' p :: q=>if h:a' = a ∧ b' = b then match lsExt n r q with
  | some d=>some (h.1 ▸ h.2 ▸ p,d)
  | none=>none else none
 | .nilS :: r,.nilS :: q=>lsExt n r q
 | .own l :: r,.own m :: q=>if l == m then lsExt n r q else none
 | .ptr l o :: r,.ptr m p :: q=>if l == m && o == p then lsExt n r q else none
 | .fn f cs :: r,.fn g ds :: q=>if f == g && cs == ds then lsExt n r q else none
 | .undef :: r,_ :: q | .skip :: r,_ :: q | .sub _ _ _ :: r,_ :: q | .ela _ _ _ _ _ :: r,_ :: q | .oela _ _ _ :: r,_ :: q | .view _ _ _ :: r,_ :: q | .oel2 _ _ _ _ _ :: r,_ :: q=>lsExt n r q
 | _,_=>none
@[reducible] def objsDen:Objs → Type
 | []=>Unit
 | .box cs :: r=>lsDen cs × objsDen r
 | .row _ t _ _ _ :: r=>List t.den × objsDen r
 | .dead :: r=>objsDen r
def objsGet:(os:Objs) → objsDen os
 | []=>()
 | .box cs :: r=>(lsGet cs,objsGet r)
 | .row _ _ xs _ _ :: r=>(xs,objsGet r)
 | .dead :: r=>objsGet r
def objsPut:(os:Objs) → objsDen os → Objs
 | [],_=>[]
 | .box cs :: r,d=>.box (lsPut cs d.1) :: objsPut r d.2
 | .row e t _ deep L :: r,d=>.row e t d.1 deep L :: objsPut r d.2
 | .dead :: r,d=>.dead :: objsPut r d
def objsExt (n:Nat):(os ps:Objs) → Option (objsDen os)
 | [],_=>some ()
 | .box cs :: r,.box ds :: q=>match lsExt n cs ds with
  | some x=>match objsExt n r q with
   | some y=>some (x,y)
   | none=>none
  | none=>none
 | .row e t _ b L :: r,.row f s ys c M :: q=>if e == f && b == c && (L == M || (trimL n M).all (has L)) then match castL s t ys with
  | some x=>match objsExt n r q with
   | some y=>some (x,y)
   | none=>none
  | none=>none else none
 | .dead :: r,.dead :: q=>objsExt n r q
 | _,_=>none
def keepFrom (live:List Nat):Nat → List SV → List Leaf
 | _,[]=>[]
 | i,v :: r=>(if has live i then v.leaf else .undef) :: keepFrom live (i + 1) r
def loopN {α ρ:Type}:Nat → ((α → Option ρ) → α → Option ρ) → α → Option ρ
 | 0,_,_=>none
 | n + 1,body,x=>body (loopN n body) x
inductive Ex where
 | normal | exit (id:Nat) | ret
def headSt (live:List Nat) (st:St) (d:lsDen (keepFrom live 0 st.regs ++ st.frm) × objsDen st.objs):St:=
 {st with regs:=((lsPut (keepFrom live 0 st.regs ++ st.frm) d.1).take st.regs.length).map .one,objs:=objsPut st.objs d.2,frm:=(lsPut (keepFrom live 0 st.regs ++ st.frm) d.1).drop st.regs.length }
abbrev INL:=(ρ:Type) → FuncId → List (Nat × Nat) → List SV → St → (SV → St → Option ρ) → Option ρ
def isInl (E:Env) (st:St) (o:Oper):Option (FuncId × List (Nat × Nat) × List SV):=
 match o.op with
 | .call c=>match c.callee with
  | .value f=>match (st.ev f).leaf with
   | .fn g caps=>if has E.inl g then some (g,caps,c.args.toList.map st.ev) else none
   | _=>none
  | _=>none
 | _=>none
def reAlloc (E:Env) (st:St) (o:Oper):Option St:=
 match o.op with
 | .alloc t=>match o.dst with
  | some d=>match (st.reg d).leaf with
   | .ptr l 0=>match obj st.objs l,tyOf E t with
    | .box _,some ti=>if !Nat.blt l st.ro && !Nat.blt l st.fx then match st.kill true l with
      | some st'=>some (({ st' with objs:=st'.objs.set l (.box (zeroLeaves ti.ty)) }).put (some d) (.one (.ptr l 0)))
      | none=>none
     else none
    | _,_=>none
   | _=>none
  | none=>none
 | _=>none
noncomputable def bothO {ρ:Type} (a b:Option ρ):Option ρ:=open Classical in if a = b then a else none
def nilCmp (E:Env) (st:St) (o:Oper):Option (Bool × Option Bool):=
 match o.op with
 | .binOp op t x y _=>if isSliceTy E t then match st.ev y,op with
  | .one .nilS,.eql=>match (st.ev x).leaf with
   | .nilS=>some (false,none)
   | c=>match sliceTy st.objs c with
    | some s=>match sliceData st.objs s c with
     | some (xs,_)=>some (false,some xs.isEmpty)
     | none=>none
    | none=>none
  | .one .nilS,.neq=>match (st.ev x).leaf with
   | .nilS=>some (true,none)
   | c=>match sliceTy st.objs c with
    | some s=>match sliceData st.objs s c with
     | some (xs,_)=>some (true,some xs.isEmpty)
     | none=>none
    | none=>none
  | _,_=>none
  else none
 | _=>none
noncomputable def runOpsI {ρ:Type} (E:Env) (cb:CB) (inl:INL) (ops:List Oper):Nat → List Oper → St → (St → Option ρ) → Option ρ
 | _,[],st,K=>K st
 | i,o :: r,st,K=>match guardOk ops st o with
  | some true=>match isInl E st o with
   | some (g,caps,args)=>inl ρ g caps args st fun v st'=>runOpsI E cb inl ops (i + 1) r (st'.put o.dst v) K
   | none=>match reAlloc E st o with
    | some st'=>runOpsI E cb inl ops (i + 1) r st' K
    | none=>match nilCmp E st o with
    | some (neg,none)=>runOpsI E cb inl ops (i + 1) r (st.put o.dst (vbool (!neg))) K
    | some (neg,some emp)=>if emp then bothO (runOpsI E cb inl ops (i + 1) r (st.put o.dst (vbool true)) K) (runOpsI E cb inl ops (i + 1) r (st.put o.dst (vbool false)) K)
     else runOpsI E cb inl ops (i + 1) r (st.put o.dst (vbool neg)) K
    | none=>(step E cb st o).run fun st'=>split (isSrc ops i) st'.1 o.dst fun st''=>runOpsI E cb inl ops (i + 1) r st'' K
  | some false=>runOpsI E cb inl ops (i + 1) r (st.put o.dst (.one .skip)) K
  | none=>none
def spotGet (st:St):Spot → Leaf
 | .r i=>(st.reg i).leaf
 | .f i=>st.frm.getD i .undef
 | .b l k=>match obj st.objs l with
  | .box cs=>cs.getD k .undef
  | _=>.undef
def spotPut (st:St) (c:Leaf):Spot → St
 | .r i=>{ st with regs:=st.regs.set i (.one c) }
 | .f i=>{ st with frm:=st.frm.set i c }
 | .b l k=>match obj st.objs l with
  | .box cs=>{ st with objs:=st.objs.set l (.box (cs.set k c)) }
  | _=>st
def frzAt (st:St) (s:Spot) (e:TypeId) (t:Ty):Option St:=
 match spotGet st s with
 | .nilS=>some (spotPut st (.val (.slice e t) [] []) s)
 | .own m=>match st.frzLs [m] [.own m] with
  | some ([d],st')=>some (spotPut st' d s)
  | _=>none
 | _=>some st
def leanAt (st:St) (s:Spot) (L:List Nat):Option St:=
 match spotGet st s with
 | .val t x M=>some (spotPut st (.val t x (M ++ L)) s)
 | _=>none
def rowAt (st:St) (l k:Nat) (e:TypeId) (t:Ty) (d:Bool) (L:List Nat):Option St:=
 match obj st.objs l with
 | .box cs=>match cs[k]? with
  | some .nilS=>some { st with objs:=(st.objs ++ [AObj.row e t [] d L]).set l (.box (cs.set k (.own st.objs.length))) }
  | _=>none
 | _=>none
def takeAt (st:St) (s:Spot) (c:Nat):Option St:=
 match spotGet st s with
 | .own m=>if m == c then some st else match obj st.objs m,obj st.objs c with
  | .row e t xs d L,.row _ _ _ _ _=>if !Nat.blt c st.ro && !Nat.blt m st.ro && !Nat.blt c st.fx && !Nat.blt m st.fx then match st.killAll true [c,m] with
    | some st'=>some (spotPut { st' with objs:=(st'.objs.set c (.row e t xs d L)).set m .dead } (.own c) s)
    | none=>none
   else none
  | _,_=>none
 | _=>none
def promo:List Adj → St → Option St
 | [],st=>some st
 | .row l k e t d L :: ps,st=>match rowAt st l k e t d L with
  | some st=>promo ps st
  | none=>none
 | .loose l L :: ps,st=>match st.loosen l L with
  | some st=>promo ps st
  | none=>none
 | .frz s e t :: ps,st=>match frzAt st s e t with
  | some st=>promo ps st
  | none=>none
 | .lean s L :: ps,st=>match leanAt st s L with
  | some st=>promo ps st
  | none=>none
 | .take _ _ :: ps,st=>promo ps st
 | .drop i :: ps,st=>promo ps { st with frm:=st.frm.set i .undef }
def frzAll:List Adj → St → Option St
 | [],st=>some st
 | .frz s e t :: ps,st=>match frzAt st s e t with
  | some st=>frzAll ps st
  | none=>none
 | .take s c :: ps,st=>match takeAt st s c with
  | some st=>frzAll ps st
  | none=>none
 | _ :: ps,st=>frzAll ps st
noncomputable def cutN {α ρ:Type} (rest:α → Option ρ) (first:(α → Option ρ) → Option ρ):Option ρ:=first rest
def cutOf (E:Env):Code → Option (List Nat × List Adj)
 | .seq (.region id _ _) _=>assoc E.cuts id
 | .seq (.seq (.region id _ _) _) _=>assoc E.cuts id
 | .region id _ _=>assoc E.cuts id
 | _=>none
noncomputable def exec {ρ:Type} (N:Nat) (E:Env) (cb:CB) (inl:INL):Code → St → (Ex → St → Option ρ) → Option ρ
 | .skip,st,K=>K .normal st
 | .seq a b,st,K=>match cutOf E b with
  | none=>exec N E cb inl a st fun e st'=>match e with
   | .normal=>exec N E cb inl b st' K
   | e=>K e st'
  | some (live,ps)=>match promo ps st with
   | none=>none
   | some st=>cutN (fun (d:lsDen (keepFrom live 0 st.regs ++ st.frm) × objsDen st.objs)=>exec N E cb inl b (headSt live st d) K) fun rec=>
     exec N E cb inl a st fun e st'=>match e with
      | .normal=>match frzAll ps st' with
       | none=>none
       | some st'=>match lsExt st.objs.length (keepFrom live 0 st.regs ++ st.frm) (keepFrom live 0 st'.regs ++ st'.frm) with
        | some x=>match objsExt st.objs.length st.objs st'.objs with
         | some y=>rec (x,y)
         | none=>none
        | none=>none
      | e=>K e st'
 | .region _ ops draw,st,K=>if draw then runDraw E cb ops.toList st fun st'=>K .normal st'
  else runOpsI E cb inl ops.toList 0 ops.toList st fun st'=>K .normal st'
 | .cond c a b,st,K=>match (st.ev c).leaf with
  | .val .bool x _=>if x then exec N E cb inl a st K else exec N E cb inl b st K
  | _=>none
 | .block id body,st,K=>match body with
  | .loop body'=>match assoc E.live id with
   | none=>none
   | some (live,ps)=>match promo ps st with
    | none=>none
    | some st=>loopN N (fun rec (d:lsDen (keepFrom live 0 st.regs ++ st.frm) × objsDen st.objs)=>
     exec N E cb inl body' (headSt live st d) fun e st'=>match e with
      | .normal=>match frzAll ps st' with
       | none=>none
       | some st'=>match lsExt st.objs.length (keepFrom live 0 st.regs ++ st.frm) (keepFrom live 0 st'.regs ++ st'.frm) with
        | some x=>match objsExt st.objs.length st.objs st'.objs with
         | some y=>rec (x,y)
         | none=>none
        | none=>none
      | .exit j=>if j == id then K .normal st' else K (.exit j) st'
      | .ret=>K .ret st') (lsGet (keepFrom live 0 st.regs ++ st.frm),objsGet st.objs)
  | body=>exec N E cb inl body st fun e st'=>match e with
   | .exit j=>if j == id then K .normal st' else K (.exit j) st'
   | e=>K e st'
 | .exit id,st,K=>K (.exit id) st
 | .ret,st,K=>K .ret st
 | _,_,_=>none
def resSV (E:Env) (st:St):ResultVar → Option SV
 | .tmp t=>some (st.reg t)
 | .cell a t=>match tyOf E t,(st.reg a).leaf with
  | some ti,.ptr l off=>loadOp st.objs ti (.ptr l off)
  | _,_=>none
def retOf (E:Env) (st:St):(ps:List POut) → List ResultVar → Option (outsDen ps × List Nat × List Nat)
 | [],[]=>some ((),[],[])
 | .imm b t :: ps,v :: vs=>match resSV E st v with
  | some sv=>match sv.leaves with
   | some (b',ls)=>if b' == b then match getImm st.objs t ls with
    | some (x,L,[])=>match retOf E st ps vs with
     | some (y,M,B)=>some ((x,y),M,L ++ B)
     | none=>none
    | _=>none else none
   | none=>none
  | none=>none
 | .deep b t :: ps,v :: vs=>match resSV E st v with
  | some sv=>match sv.leaves with
   | some (b',ls)=>if b' == b then match getDeep st.objs t ls with
    | some (x,L,[])=>match retOf E st ps vs with
     | some (y,M,B)=>some ((x,y),L ++ M,B)
     | none=>none
    | _=>none else none
   | none=>none
  | none=>none
 | _,_=>none
def inSVs:(ps:List PIn) → insDen ps → Nat → List SV × Objs
 | [],_,_=>([],[])
 | .imm b t :: ps,x,n=>(packSV b (explode t x.1 []) :: (inSVs ps x.2 n).1,(inSVs ps x.2 n).2)
 | .mut b t :: ps,x,n=>(packSV b (deepLeaves t x.1 n).1 :: (inSVs ps x.2 (n + (deepLeaves t x.1 n).2.length)).1,(deepLeaves t x.1 n).2 ++ (inSVs ps x.2 (n + (deepLeaves t x.1 n).2.length)).2)
 | .clo gs r :: ps,x,n=>(.one (.clo gs r x.1) :: (inSVs ps x.2 n).1,(inSVs ps x.2 n).2)
 | .ptr t :: ps,x,n=>(.one (.ptr n 0) :: (inSVs ps x.2 (n + 1)).1,.box (explode t x.1 []) :: (inSVs ps x.2 (n + 1)).2)
def backMuts (os:Objs):(ps:List PIn) → insDen ps → Nat → Option (mutsDen ps × List Nat)
 | [],_,_=>some ((),[])
 | .imm _ _ :: ps,x,n=>backMuts os ps x.2 n
 | .clo _ _ :: ps,x,n=>backMuts os ps x.2 n
 | .mut _ t :: ps,x,n=>match getMut os t (deepLeaves t x.1 n).1 with
  | some (y,_,[])=>match backMuts os ps x.2 (n + (deepLeaves t x.1 n).2.length) with
   | some (z,B)=>some ((y,z),B)
   | none=>none
  | _=>none
 | .ptr t :: ps,x,n=>match obj os n with
  | .box ls=>match getImm os t ls with
   | some (y,L,[])=>match backMuts os ps x.2 (n + 1) with
    | some (z,B)=>some ((y,z),L ++ B)
    | none=>none
   | _=>none
  | _=>none
def retK (E:Env) (ins:List PIn) (x:insDen ins) (ps:List POut) (vs:List ResultVar) (e:Ex) (st:St):Option (outsDen ps × mutsDen ins):=
 match e with
 | .exit _=>none
 | _=>match retOf E st ps vs with
  | some (y,M,B)=>if noDup M && B.all (fun l=>!has M l && !Nat.blt l st.fx) && M.all (fun l=>!Nat.blt l st.ro && !Nat.blt l st.fx) then
    match backMuts st.objs ins x 0 with
    | some (z,B2)=>if B2.all (fun l=>!has M l && !Nat.blt l st.fx) then some (y,z) else none
    | none=>none
   else none
  | none=>none
def cloSVs (L:List Nat):(gs:List (Bool × Ty)) → gsDen gs → List SV
 | [],_=>[]
 | (b,t) :: gs,x=>packSV b (explode t x.1 L) :: cloSVs L gs x.2
def regsOf (fn:Func) (args:List SV):List SV:=args ++ List.replicate (fn.ntmps - args.length) (.one .undef)
def castGs (a b:List (Bool × Ty)) (x:gsDen a):Option (gsDen b):=if h:a = b then some (h ▸ x) else none
def noInl:INL:=fun _ _ _ _ _ _=>none
def inlRes (E:Env) (st:St):List ResultVar → Option (List (Bool × List Leaf))
 | []=>some []
 | r :: rs=>match resSV E st r with
  | some sv=>match sv.leaves with
   | some p=>match inlRes E st rs with
    | some q=>some (p :: q)
    | none=>none
   | none=>none
  | none=>none
def inlK {ρ:Type} (E:Env) (n:Nat) (rs:List ResultVar) (K:SV → St → Option ρ) (e:Ex) (st:St):Option ρ:=
 match e with
 | .exit _=>none
 | _=>match inlRes E st rs with
  | some vs=>K (packOuts vs) { st with regs:=(st.frm.take n).map .one,frm:=st.frm.drop n }
  | none=>none
noncomputable def runInl (N:Nat) (E:Env) (cb:CB) (inl:INL):INL:=fun ρ g caps args st K=>
 match assoc E.clos g with
 | none=>none
 | some ci=>match ci.fn.body with
  | none=>none
  | some c=>exec N { E with live:=ci.live,cuts:=[] } cb inl c { st with regs:=regsOf ci.fn (args ++ caps.map fun p=>.one (.ptr p.1 p.2)),frm:=st.regs.map SV.leaf ++ st.frm } (inlK E st.regs.length ci.fn.results.toList K)
noncomputable def inlAt (N:Nat) (E:Env) (cb:CB):Nat → INL
 | 0=>noInl
 | n + 1=>runInl N E cb (inlAt N E cb n)
noncomputable def runClo (N:Nat) (E:Env) (cb:CB):CB:=fun g caps os gs r x=>
 match assoc E.clos g with
 | none=>none
 | some ci=>match ci.fn.body with
  | none=>none
  | some c=>match castGs gs ci.gs x with
   | none=>none
   | some x=>
    if r.flat then
    (exec N { E with live:=ci.live,cuts:=[] } cb noInl c { regs:=regsOf ci.fn (cloSVs (List.range os.length) ci.gs x ++ caps.map fun p=>.one (.ptr p.1 p.2)),objs:=os,ro:=os.length,fx:=0,frm:=[] } (retK E [] () [.imm false r] ci.fn.results.toList)).bind fun y=>some y.1.1
    else none
noncomputable def cbAt (N:Nat) (E:Env):Nat → CB
 | 0=>fun _ _ _ _ _ _=>none
 | n + 1=>runClo N E (cbAt N E n)
noncomputable def cbs (N:Nat) (E:Env):CB:=cbAt N E (if E.q then 2 else 0)
noncomputable def runF (N:Nat) (E:Env) (fn:Func) (ins:List PIn) (outs:List POut) (x:insDen ins):Option (outsDen outs × mutsDen ins):=
 match fn.body with
 | none=>none
 | some c=>exec N E (cbs N E) (inlAt N E (cbs N E) 9) c { regs:=regsOf fn (inSVs ins x 0).1,objs:=(inSVs ins x 0).2,ro:=0,fx:=(inSVs ins x 0).2.length,frm:=[] } (retK E ins x outs fn.results.toList)
end Go.AM
