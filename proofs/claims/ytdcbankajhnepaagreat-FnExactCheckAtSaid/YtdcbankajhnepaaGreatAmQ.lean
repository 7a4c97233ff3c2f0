/- Lemmas on what functions do to data. No condition. -/
import Derived.Test.YtdcbankajhnepaaGreatAmP
set_option linter.unusedVariables false
set_option linter.unusedSimpArgs false
set_option maxRecDepth 4000
namespace Go.AM.P
open Go.AM
class WL (α:Type) where
 wl:α→Prop
instance:WL Int:=⟨fun _=>True⟩
instance:WL Bool:=⟨fun _=>True⟩
instance:WL Unit:=⟨fun _=>True⟩
instance:WL ByteArray:=⟨fun s=>s.size≤maxLen⟩
instance {α β:Type} [WL α] [WL β]:WL (α×β):=⟨fun x=>WL.wl x.1∧WL.wl x.2⟩
instance {α:Type} [WL α]:WL (List α):=⟨fun l=>l.length≤maxLen∧∀ x∈l,WL.wl x⟩
theorem zj2 {α:Type} [WL α] {l:List α} (h:WL.wl l) {x:α} (hx:x∈l):WL.wl x:=h.2 x hx
def Marks {α:Type} [WL α] (f:α→Int→Option ((Int×Unit)×(α×Unit))) (g:α→Int→Option ((Int×Unit)×Unit)) (u:α→Nat):Prop:=
 ∀ (x:α) (k:Int),WL.wl x→0<k→k+(u x:Int)≤4611686018427387904→∃ x':α,f x k=some ((k+(u x:Int),()),(x',()))∧g x' k=some ((k+(u x:Int),()),())
def zhq (k:Int):Nat→List Int
 | 0=>[]
 | n+1=>k::zhq (k+1) n
theorem zeu (k:Int) (n:Nat):(zhq k n).length=n:=by
 induction n generalizing k with
 | zero=>rfl
 | succ n ih=>simp[zhq,ih]
theorem zl7 {l:List Int} {k:Int} (h0:0<k) (hk:k+l.length≤4611686018427387904):z1x l k=some ((k+l.length,()),(zhq k l.length,())):=by
 unfold z1x
 refine z0q (l.length+1) fun N hN=>?_
 unfold z9t
 refine z06 l (by rw[z03]; omega) (fun i (s:Int×List Int)=>((s.1,(i:Int),()),(s.2,()))) (fun i t s=>((s.1+t.length,()),(s.2.take i++zhq s.1 t.length,())))
  (fun i t s=>0<s.1∧s.1+t.length≤4611686018427387904∧s.2.length=l.length∧i+t.length=l.length)
  (k,l) rfl (by simp) ⟨h0,hk,rfl,by simp⟩ hN (fun rec s h=>?_) (fun rec i b t s hat h hrec=>?_)
 ·obtain⟨h1,h2,h3,h4⟩:=h
  dsimp only
  simp only[h3,z00,decide_false,Bool.false_eq_true,if_false,zhq]
  rw[←h3,List.take_length]
  simp[zhq]
 ·obtain⟨k,xs⟩:=s
  obtain⟨h1,h2,h3,h4⟩:=h
  simp only[List.length_cons] at h1 h2 h3 h4
  have hlt:=hat.ltn
  dsimp only
  simp only[h3,hat.lt,hat.nn,hat.wrap,decide_true,if_true,Int.toNat_natCast]
  rw[z0b (n:=k+1) (by omega) (by omega)]
  have hi:i<xs.length:=by omega
  refine (hrec (k+1,xs.set i k) ⟨by simp; omega,by simp; omega,by simp[h3],by omega⟩).trans ?_
  simp only[List.length_cons,zhq,Option.some.injEq,Prod.mk.injEq,and_true]
  refine⟨by omega,?_⟩
  rw[List.take_add_one,List.getElem?_set_self hi,List.take_set,List.set_eq_of_length_le (by simp; omega)]
  simp
theorem zt3 {n:Nat} {k:Int} (h0:0<k) (hk:k+n≤4611686018427387904):z37 (zhq k n) k=some ((k+n,()),()):=by
 unfold z37
 refine z0q (n+1) fun N hN=>?_
 unfold z9u
 refine z06 (zhq k n) (by rw[z03,zeu]; omega) (fun i (s:Int)=>((zhq k n,s,(i:Int),()),())) (fun i t s=>((s+t.length,()),()))
  (fun i t s=>0<s∧s+t.length≤4611686018427387904∧t=zhq s t.length)
  k rfl (by simp[zeu]) ⟨h0,by simpa[zeu] using hk,by rw[zeu]⟩ (by rw[zeu]; omega) (fun rec s h=>?_) (fun rec i b t s hat h hrec=>?_)
 ·dsimp only
  simp only[z00,decide_false,Bool.false_eq_true,if_false]
  simp
 ·obtain⟨h1,h2,h3⟩:=h
  simp only[List.length_cons,zhq,List.cons.injEq] at h2 h3
  obtain⟨rfl,h3⟩:=h3
  dsimp only
  simp only[hat.lt,hat.nn,hat.wrap,hat.rd,decide_true,if_true,bne_self_eq_false,Bool.false_eq_true,if_false]
  rw[z0b (n:=b+1) (by omega) (by omega)]
  refine (hrec (b+1) ⟨by omega,by omega,h3⟩).trans ?_
  simp only[List.length_cons,Option.some.injEq,Prod.mk.injEq,and_true]
  omega
theorem marks_IntS:Marks z1x z37 List.length:=fun l k _ h0 hk=>⟨_,zl7 h0 hk,zt3 h0 hk⟩
class Cnt (α:Type) where
 cnt:α→Nat
instance:Cnt Int:=⟨fun _=>0⟩
instance:Cnt Bool:=⟨fun _=>0⟩
instance:Cnt Unit:=⟨fun _=>0⟩
instance:Cnt ByteArray:=⟨fun s=>s.size⟩
instance {α β:Type} [Cnt α] [Cnt β]:Cnt (α×β):=⟨fun x=>Cnt.cnt x.1+Cnt.cnt x.2⟩
def z0t {α:Type} (f:α→Nat):List α→Nat
 | []=>0
 | x::r=>f x+z0t f r
instance {α:Type} [Cnt α]:Cnt (List α):=⟨fun l=>l.length+z0t Cnt.cnt l⟩
theorem zqt {α:Type} (f:α→Nat) {l:List α} {x:α} (h:x∈l):f x≤z0t f l:=by
 induction l with
 | nil=>cases h
 | cons y r ih=>
  simp only[z0t]
  rcases List.mem_cons.1 h with rfl | h
  ·omega
  ·have:=ih h; omega
theorem zk1 {α:Type} [Cnt α] (l:List α):Cnt.cnt l=l.length+z0t Cnt.cnt l:=rfl
theorem z6g {α β:Type} [Cnt α] [Cnt β] (x:α×β):Cnt.cnt x=Cnt.cnt x.1+Cnt.cnt x.2:=rfl
theorem zum (l:List Int):z0t Cnt.cnt l=0:=by
 induction l with
 | nil=>rfl
 | cons x r ih=>simp only[z0t,ih]; rfl
theorem zud (l:List Int):Cnt.cnt l=l.length:=by rw[zk1,zum,Nat.add_zero]
def szV (n:Nat) (k:Int):Int:=if (n:Int)≤k then k - n else -1
def zgb (n:Nat) (k:Int):Option ((Int×Unit)×Unit):=some ((szV n k,()),())
theorem znu {n:Nat} {k:Int} (h:(n:Int)≤k):szV n k=k - n:=if_pos h
theorem zga {n:Nat} {k:Int} (h:¬(n:Int)≤k):szV n k=-1:=if_neg h
def SzOk {α:Type} [Cnt α] [WL α] (f:α→Int→Option ((Int×Unit)×Unit)):Prop:=
 ∀ (x:α) (k:Int),0≤k→k≤1048576→WL.wl x→f x k=zgb (Cnt.cnt x) k
theorem zw4 {n:Nat} {k:Int} (hn:n≤maxLen) (h0:0≤k) (h1:k≤1048576):IntKind.i64.wrap (k - (n:Int))=k - n:=by
 rw[z03] at hn
 exact z0b (by omega) (by omega)
theorem zw3 {α:Type} [Cnt α] [WL α] {f:α→Int→Option ((Int×Unit)×Unit)} (hf:SzOk f) (z:α) (l:List α) (k:Int) (h0:0≤k) (h1:k≤1048576) (hl:WL.wl l) {N:Nat} (hN:l.length<N):
  (if (decide ((IntKind.i64.wrap (k - (l.length:Int)))<(0:Int))) then (some (((-1:Int),()),())) else (z0i N (fun rec1 (d2:(List α×Int×Int×Unit)×(Unit))=>(if (decide (d2.1.2.2.1<(d2.1.1.length:Int))) then (if (decide (0≤d2.1.2.2.1)) then (if (decide (d2.1.2.2.1<d2.1.1.length)) then ((f (rd d2.1.1 d2.1.2.2.1 z) d2.1.2.1).bind fun y3=>(if (decide (y3.1.1<(0:Int))) then (some (((-1:Int),()),())) else (rec1 ((d2.1.1,y3.1.1,(IntKind.i64.wrap (d2.1.2.2.1+(1:Int))),()),(()))))) else none) else none) else (some ((d2.1.2.1,()),())))) ((l,(IntKind.i64.wrap (k - (l.length:Int))),(0:Int),()),(()))))
  = zgb (Cnt.cnt l) k:=by
 rw[zw4 hl.1 h0 h1]
 by_cases hk:k - (l.length:Int)<0
 ·simp only[hk,decide_true,if_true,zgb,zk1]
  rw[zga (by omega)]
 simp only[hk,decide_false,Bool.false_eq_true,if_false]
 refine z06 l hl.1 (fun i (s:Int)=>((l,s,(i:Int),()),())) (fun i t s=>((szV (z0t Cnt.cnt t) s,()),())) (fun i t s=>0≤s∧s≤1048576)
  (k - l.length) rfl ?_ ⟨by omega,by omega⟩ hN (fun rec s h=>?_) (fun rec i b t s hat h hrec=>?_)
 ·rw[zk1]
  simp only[Prod.mk.injEq,and_true]
  unfold szV
  split<;>split<;>omega
 ·dsimp only
  simp only[z00,decide_false,Bool.false_eq_true,if_false,z0t]
  simp[szV,h.1]
 ·dsimp only
  simp only[hat.lt,hat.nn,hat.wrap,hat.rd,decide_true,if_true]
  rw[hf b s h.1 h.2 (zj2 hl hat.mem)]
  simp only[zgb,Option.bind_some,z0t]
  by_cases hb:(Cnt.cnt b:Int)≤s
  ·rw[znu hb,decide_eq_false (by omega)]
   simp only[Bool.false_eq_true,if_false]
   refine (hrec _ ⟨by omega,by omega⟩).trans ?_
   simp only[Option.some.injEq,Prod.mk.injEq,and_true]
   unfold szV
   split<;>split<;>omega
  ·rw[zga hb,zga (by omega)]
   simp
theorem y1l:SzOk z9b:=fun x k h0 h1 hl=>by
 unfold z9b zcv
 rw[zw4 hl.1 h0 h1,zgb,zud]
 by_cases hk:k - (x.length:Int)<0
 ·simp only[hk,decide_true,if_true]
  rw[zga (by omega)]
 ·simp only[hk,decide_false,Bool.false_eq_true,if_false]
  rw[znu (by omega)]
def ToOk {α:Type} [Cnt α] (f:α→Option ((α×Unit)×Unit)):Prop:=∀ x:α,Cnt.cnt x≤1048576→f x=some ((x,()),())
theorem y1r {β:Type} (xs:List β) (n:Nat) (z c:β) (i:Nat) (h:xs.length=i):(xs++List.replicate (n+1) z).set i c=(xs++[c])++List.replicate n z:=by
 subst h
 rw[List.replicate_succ]
 simp
theorem zrz {α:Type} [Cnt α] {f:α→Option ((α×Unit)×Unit)} (hf:ToOk f) (z:α) (w:Nat) (hw:w≤1000) (l:List α) (hl:Cnt.cnt l≤1048576) {N:Nat} (hN:l.length<N):
  (if (decide ((0:Int)≤(l.length:Int))) then (if ((l.length:Int)==(l.length:Int)) then (if (decide ((l.length:Int)*w≤140737488355328)) then (z0i N (fun rec1 (d2:(List α×Int×Unit)×(List α×List α×Unit))=>(if (decide (d2.1.2.1<(d2.1.1.length:Int))) then (if (decide (0≤d2.1.2.1)) then (if (decide (d2.1.2.1<d2.1.1.length)) then ((f (rd d2.1.1 d2.1.2.1 z)).bind fun y3=>(if (decide (0≤d2.1.2.1)) then (if (decide (d2.1.2.1<d2.2.2.1.length)) then (rec1 ((d2.1.1,(IntKind.i64.wrap (d2.1.2.1+(1:Int))),()),(d2.2.1,(d2.2.2.1.set d2.1.2.1.toNat y3.1.1),()))) else none) else none)) else none) else none) else (some ((d2.2.2.1,()),())))) ((l,(0:Int),()),(([]:List α),(List.replicate (l.length:Int).toNat z),()))) else none) else none) else none)
  = some ((l,()),()):=by
 rw[zk1] at hl
 have h1:(0:Int)≤(l.length:Int):=by omega
 have h2:(l.length:Int)*w≤140737488355328:=by
  have:(l.length:Int)*w≤1048576*1000:=Int.mul_le_mul (by omega) (by omega) (by omega) (by omega)
  omega
 simp only[h1,h2,decide_true,if_true,beq_self_eq_true,Int.toNat_natCast]
 refine z06 l (by rw[z03]; omega) (fun i (s:List α)=>((l,(i:Int),()),([],s++List.replicate (l.length - i) z,()))) (fun i t s=>((s++t,()),())) (fun i t s=>s.length=i)
  [] rfl rfl rfl hN (fun rec s h=>?_) (fun rec i b t s hat h hrec=>?_)
 ·dsimp only
  simp[h]
 ·have hlt:=hat.ltn
  obtain⟨m,hm⟩:∃ m,l.length - i=m+1:=⟨l.length - i - 1,by omega⟩
  dsimp only
  rw[hm]
  have hb:Cnt.cnt b≤1048576:=by have:=zqt Cnt.cnt hat.mem; omega
  have h5:(i:Int)<((s++List.replicate (m+1) z).length:Int):=by simp[h]; omega
  simp only[hat.lt,hat.nn,hat.wrap,hat.rd,decide_true,if_true,hf b hb,Option.bind_some,h5,Int.toNat_natCast,y1r s m z b i h]
  have:=hrec (s++[b]) (by simp[h])
  rw[show l.length - (i+1)=m by omega] at this
  exact this.trans (by simp)
theorem zz3 {α:Type} [Cnt α] (z:α) (w:Nat) (hw:w≤1000) (l:List α) (hl:Cnt.cnt l≤1048576) {N:Nat} (hN:l.length<N):
  (if (decide ((0:Int)≤(l.length:Int))) then (if ((l.length:Int)==(l.length:Int)) then (if (decide ((l.length:Int)*w≤140737488355328)) then (z0i N (fun rec1 (d2:(List α×Int×Unit)×(List α×List α×Unit))=>(if (decide (d2.1.2.1<(d2.1.1.length:Int))) then (if (decide (0≤d2.1.2.1)) then (if (decide (d2.1.2.1<d2.1.1.length)) then (if (decide (0≤d2.1.2.1)) then (if (decide (d2.1.2.1<d2.2.2.1.length)) then (rec1 ((d2.1.1,(IntKind.i64.wrap (d2.1.2.1+(1:Int))),()),(d2.2.1,(d2.2.2.1.set d2.1.2.1.toNat (rd d2.1.1 d2.1.2.1 z)),()))) else none) else none) else none) else none) else (some ((d2.2.2.1,()),())))) ((l,(0:Int),()),(([]:List α),(List.replicate (l.length:Int).toNat z),()))) else none) else none) else none)
  = some ((l,()),()):=zrz (f:=fun x=>some ((x,()),())) (fun x _=>rfl) z w hw l hl hN
theorem y1e:ToOk zdn:=fun x h=>z0q (x.length+1) fun N hN=>zz3 0 8 (by omega) x h hN
open Classical in
noncomputable def same {α:Type} (a b:α):Bool:=decide (a=b)
theorem z1c {α:Type} {a b:α}:same a b=true↔a=b:=by simp[same]
theorem zh7 {α:Type} (a:α):same a a=true:=z1c.2 rfl
theorem zqa {α:Type} (a b:α) (s t:List α):same (a::s) (b::t)=(same a b&&same s t):=by
 rw[Bool.eq_iff_iff]; simp[z1c]
theorem z28 {α β:Type} (a b:α×β):same a b=(same a.1 b.1&&same a.2 b.2):=by
 rw[Bool.eq_iff_iff]; simp[z1c,Prod.ext_iff]
theorem ze9 (a b:Unit):same a b=true:=z1c.2 rfl
theorem zo7 (a b:Int):(a != b)=!same a b:=by
 by_cases h:a=b
 ·subst h; simp[zh7]
 ·have:same a b=false:=by rw[Bool.eq_false_iff]; intro h2; exact h (z1c.1 h2)
  simp[this,h]
def EqOk {α:Type} [WL α] (f:α→α→Option ((Bool×Unit)×Unit)):Prop:=∀ a b:α,WL.wl a→WL.wl b→f a b=some ((same a b,()),())
theorem zp7 {α:Type} [WL α] {f:α→α→Option ((Bool×Unit)×Unit)} (hf:EqOk f) (z:α) (l m:List α) (hl:WL.wl l) (hm:WL.wl m) {N:Nat} (hN:l.length<N):
  (if ((l.length:Int) != (m.length:Int)) then (some ((false,()),())) else (z0i N (fun rec1 (d2:(List α×List α×Int×Unit)×(Unit))=>(if (decide (d2.1.2.2.1<(d2.1.1.length:Int))) then (if (decide (0≤d2.1.2.2.1)) then (if (decide (d2.1.2.2.1<d2.1.1.length)) then (if (decide (0≤d2.1.2.2.1)) then (if (decide (d2.1.2.2.1<d2.1.2.1.length)) then ((f (rd d2.1.1 d2.1.2.2.1 z) (rd d2.1.2.1 d2.1.2.2.1 z)).bind fun y3=>(if (!y3.1.1) then (some ((false,()),())) else (rec1 ((d2.1.1,d2.1.2.1,(IntKind.i64.wrap (d2.1.2.2.1+(1:Int))),()),(()))))) else none) else none) else none) else none) else (some ((true,()),())))) ((l,m,(0:Int),()),(()))))
   = some ((same l m,()),()):=by
 by_cases hlen:l.length=m.length
 ·have h1:((l.length:Int) != (m.length:Int))=false:=by simp[hlen]
  rw[h1]
  simp only[Bool.false_eq_true,if_false]
  refine z06 l hl.1 (fun i (s:Unit)=>((l,m,(i:Int),()),())) (fun i t s=>((same t (m.drop i),()),())) (fun i t s=>True)
   () rfl (by simp) trivial hN (fun rec s h=>?_) (fun rec i b t s hat h hrec=>?_)
  ·dsimp only
   simp[hlen,zh7]
  ·have hlt:=hat.ltn
   have hd:m.drop i=m[i]'(by omega)::m.drop (i+1):=List.drop_eq_getElem_cons (by omega)
   have hb:=At.of hm.1 hd
   have hr:=hf b (m[i]'(by omega)) (zj2 hl hat.mem) (zj2 hm hb.mem)
   dsimp only
   simp only[hat.lt,hb.lt,hat.nn,hat.wrap,hat.rd,hb.rd,decide_true,if_true,hr,Option.bind_some,hd,zqa]
   cases same b (m[i]'(by omega)) with
   | false=>simp
   | true=>
    simp only[Bool.not_true,Bool.false_eq_true,if_false,Bool.true_and]
    exact hrec () trivial
 ·have h1:((l.length:Int) != (m.length:Int))=true:=by simp; omega
  rw[h1]
  have:same l m=false:=by rw[Bool.eq_false_iff]; intro h; rw[z1c] at h; subst h; exact hlen rfl
  simp[this]
theorem zta:EqOk z6q:=fun a b ha hb=>z0q (a.length+1) fun N hN=>by
 have h:=zp7 (f:=fun a b:Int=>some ((same a b,()),())) (fun a b _ _=>rfl) 0 a b ha hb (N:=N) hN
 unfold zcx
 simp only[zo7 (rd _ _ _)]
 exact h
theorem y0c:EqOk zbs:=fun a b ha hb=>z0q (a.length+1) fun N hN=>zp7 zta [] a b ha hb hN
def zhn {α:Type} (f:α→Int→Option ((Int×Unit)×(α×Unit))):Int→List α→List α
 | _,[]=>[]
 | k,b::t=>match f b k with
  | some ((k',_),(b',_))=>b'::zhn f k' t
  | none=>[]
theorem zih {α:Type} {f:α→Int→Option ((Int×Unit)×(α×Unit))} {k k':Int} {b b':α} {t:List α} (h:f b k=some ((k',()),(b',()))):zhn f k (b::t)=b'::zhn f k' t:=by
 simp only[zhn,h]
theorem zl5 {α:Type} [WL α] {f:α→Int→Option ((Int×Unit)×(α×Unit))} {g:α→Int→Option ((Int×Unit)×Unit)} {u:α→Nat} (h:Marks f g u):∀ (l:List α) (k:Int),(∀ x∈l,WL.wl x)→0<k→k+(z0t u l:Int)≤4611686018427387904→(zhn f k l).length=l.length
 | [],_,_,_,_=>rfl
 | b::t,k,hl,h0,hk=>by
  simp only[z0t] at hk
  obtain⟨b',h1,_⟩:=h b k (hl b (by simp)) h0 (by omega)
  rw[zih h1,List.length_cons,zl5 h t _ (fun x hx=>hl x (by simp[hx])) (by omega) (by omega),List.length_cons]
theorem zew {β σ α ρ:Type} {body:(α→Option ρ)→α→Option ρ} {N:Nat} {x:α} {v:ρ} (l:List β) (hl:l.length≤maxLen) (mk:Nat→List β→σ→α) (G:List β→List β→σ→ρ) (I:List β→List β→σ→Prop)
  (s:σ) (hx:mk 0 l s=x) (hv:G [] l s=v) (hI:I [] l s) (hN:l.length<N)
  (nil:∀ rec dn s,dn.length=l.length→I dn [] s→body rec (mk dn.length dn s)=some (G dn [] s))
  (cons:∀ rec dn b t s,At (dn++b::t) dn.length b t→I dn (b::t) s→(∀ b' s',I (dn++[b']) t s'→rec (mk (dn.length+1) (dn++b'::t) s')=some (G (dn++[b']) t s'))→body rec (mk dn.length (dn++b::t) s)=some (G dn (b::t) s)):
  z0i N body x=some v:=by
 subst hx; subst hv
 have key:∀ (todo dn:List β) (s:σ) (N:Nat),dn.length+todo.length=l.length→I dn todo s→todo.length<N→z0i N body (mk dn.length (dn++todo) s)=some (G dn todo s):=by
  intro todo
  induction todo with
  | nil=>
   intro dn s N h1 h2 h3
   obtain⟨n,rfl⟩:∃ n,N=n+1:=⟨N - 1,by simp at h3; omega⟩
   have:=nil (z0i n body) dn s (by simpa using h1) h2
   simpa[z0i] using this
  | cons b t ih=>
   intro dn s N h1 h2 h3
   obtain⟨n,rfl⟩:∃ n,N=n+1:=⟨N - 1,by omega⟩
   simp only[List.length_cons] at h1 h3
   refine cons (z0i n body) dn b t s (At.of (by simp; omega) (by simp)) h2 fun b' s' hs'=>?_
   have:=ih (dn++[b']) s' n (by simp; omega) hs' (by omega)
   simpa using this
 simpa using key l [] s N (by simp) hI hN
theorem z8g {β:Type} (xs ys:List β) (b c:β):(xs++b::ys).set xs.length c=xs++c::ys:=by simp
theorem zea {β:Type} (xs ys:List β) (b d:β):rd (xs++b::ys) (xs.length:Int) d=b:=by
 rw[z6v]; simp
def zyz {α:Type} [WL α] (f:α→Int→Option ((Int×Unit)×(α×Unit))) (u:α→Nat):Prop:=
 ∀ (x:α) (k:Int),WL.wl x→0<k→k+(u x:Int)≤4611686018427387904→∃ x':α,f x k=some ((k+(u x:Int),()),(x',()))
theorem Marks.ok {α:Type} [WL α] {f:α→Int→Option ((Int×Unit)×(α×Unit))} {g:α→Int→Option ((Int×Unit)×Unit)} {u:α→Nat} (h:Marks f g u):zyz f u:=fun x k a b c=>(h x k a b c).imp fun _ h=>h.1
theorem zqp {α:Type} [WL α] {f:α→Int→Option ((Int×Unit)×(α×Unit))} {u:α→Nat} (h:zyz f u) (z:α) (l:List α) (k:Int) (h0:0<k) (hlen:WL.wl l) (hk:k+(z0t u l:Int)≤4611686018427387904) {N:Nat} (hN:l.length<N):
  (z0i N (fun rec1 (d2:(Int×Int×Unit)×(List α×Unit))=>(if (decide (d2.1.2.1<(d2.2.1.length:Int))) then (if (decide (0≤d2.1.2.1)) then (if (decide (d2.1.2.1<d2.2.1.length)) then ((f (rd d2.2.1 d2.1.2.1 z) d2.1.1).bind fun y3=>(rec1 ((y3.1.1,(IntKind.i64.wrap (d2.1.2.1+(1:Int))),()),((d2.2.1.set d2.1.2.1.toNat y3.2.1),())))) else none) else none) else (some ((d2.1.1,()),(d2.2.1,()))))) ((k,(0:Int),()),(l,())))=some ((k+(z0t u l:Int),()),(zhn f k l,())):=by
 refine zew l hlen.1 (fun i xs (s:Int)=>((s,(i:Int),()),(xs,()))) (fun dn t s=>((s+(z0t u t:Int),()),(dn++zhn f s t,()))) (fun dn t s=>0<s∧s+(z0t u t:Int)≤4611686018427387904∧∀ x∈t,WL.wl x)
  k rfl rfl ⟨h0,hk,hlen.2⟩ hN (fun rec dn s hd hs=>?_) (fun rec dn b t s hat hs hrec=>?_)
 ·dsimp only
  simp[zhn,z0t]
 ·simp only[z0t] at hs
  obtain⟨b',h1⟩:=h b s (hs.2.2 b (by simp)) hs.1 (by omega)
  dsimp only
  simp only[hat.lt,hat.nn,hat.wrap,hat.rd,decide_true,if_true,h1,Option.bind_some,Int.toNat_natCast,z8g]
  refine (hrec b' (s+(u b:Int)) ⟨by omega,by omega,fun x hx=>hs.2.2 x (by simp[hx])⟩).trans ?_
  simp only[zih h1,z0t,List.append_assoc,List.singleton_append,Option.some.injEq,Prod.mk.injEq,and_true]
  omega
theorem zxq {α:Type} [WL α] {f:α→Int→Option ((Int×Unit)×(α×Unit))} {g:α→Int→Option ((Int×Unit)×Unit)} {u:α→Nat} (h:Marks f g u) (z:α) (l:List α) (k:Int) (h0:0<k) (hlen:WL.wl l) (hk:k+(z0t u l:Int)≤4611686018427387904) {N:Nat} (hN:l.length<N):
  (z0i N (fun rec1 (d2:(List α×Int×Int×Unit)×(Unit))=>(if (decide (d2.1.2.2.1<(d2.1.1.length:Int))) then (if (decide (0≤d2.1.2.2.1)) then (if (decide (d2.1.2.2.1<d2.1.1.length)) then ((g (rd d2.1.1 d2.1.2.2.1 z) d2.1.2.1).bind fun y3=>(if (decide (y3.1.1<(0:Int))) then (some (((-1:Int),()),())) else (rec1 ((d2.1.1,y3.1.1,(IntKind.i64.wrap (d2.1.2.2.1+(1:Int))),()),(()))))) else none) else none) else (some ((d2.1.2.1,()),())))) ((zhn f k l,k,(0:Int),()),(())))=some ((k+(z0t u l:Int),()),()):=by
 have hml:=zl5 h l k hlen.2 h0 hk
 refine z06 (zhn f k l) (by have:=hlen.1; omega) (fun i (s:Int)=>((zhn f k l,s,(i:Int),()),())) (fun i t s=>((k+(z0t u l:Int),()),())) (fun i t s=>0<s∧∃ m,t=zhn f s m∧s+(z0t u m:Int)=k+(z0t u l:Int)∧∀ x∈m,WL.wl x)
  k rfl rfl ⟨h0,l,rfl,rfl,hlen.2⟩ (by omega) (fun rec s hs=>?_) (fun rec i b t s hat hs hrec=>?_)
 ·obtain⟨h1,m,h2,h3,hwl⟩:=hs
  have:m=[]:=by
   have:=zl5 h m s hwl h1 (by omega)
   rw[←h2] at this
   exact List.eq_nil_of_length_eq_zero this.symm
  subst this
  simp only[z0t] at h3
  dsimp only
  simp only[z00,decide_false,Bool.false_eq_true,if_false,Option.some.injEq,Prod.mk.injEq,and_true]
  omega
 ·obtain⟨h1,m,h2,h3,hwl⟩:=hs
  cases m with
  | nil=>cases h2
  | cons c m=>
   simp only[z0t] at h3
   obtain⟨c',h4,h5⟩:=h c s (hwl c (by simp)) h1 (by omega)
   rw[zih h4] at h2
   simp only[List.cons.injEq] at h2
   obtain⟨rfl,h2⟩:=h2
   dsimp only
   simp only[hat.lt,hat.nn,hat.wrap,hat.rd,decide_true,if_true,h5,Option.bind_some]
   rw[decide_eq_false (by omega)]
   simp only[Bool.false_eq_true,if_false]
   exact hrec _ ⟨by omega,m,h2,by omega,fun x hx=>hwl x (by simp[hx])⟩
theorem zsr:Marks z8y z8z (z0t List.length):=
 fun x k hl h0 hk=>⟨zhn z1x k x,z0q (x.length+1) fun N hN=>zqp marks_IntS.ok [] x k h0 hl hk hN,z0q (x.length+1) fun N hN=>zxq marks_IntS [] x k h0 hl hk hN⟩
theorem zev {β:Type} (dn:List β) (b:β) (t:List β):((dn.length:Int)<((dn++b::t).length:Int))=True:=by simp; omega
theorem zer {β:Type} (dn:List β):((0:Int)≤(dn.length:Int))=True:=by simp
theorem z6h (n:Int):Cnt.cnt n=0:=rfl
theorem z6i (n:Bool):Cnt.cnt n=0:=rfl
theorem z4h (n:Unit):Cnt.cnt n=0:=rfl
theorem y1i {n m:Nat} {k:Int} (h0:0≤k) (h1:k≤1048576) {G:(Int×Unit)×Unit→Option ((Int×Unit)×Unit)} (hneg:G ((-1,()),())=some ((-1,()),())) (hK:∀ k':Int,decide (k'<0)=false→0≤k'→k'≤1048576→G ((k',()),())=zgb m k'):
  (zgb n k).bind G=zgb (n+m) k:=by
 simp only[zgb,Option.bind_some]
 by_cases hn:(n:Int)≤k
 ·rw[znu hn,hK _ (decide_eq_false (by omega)) (by omega) (by omega),zgb]
  simp only[Option.some.injEq,Prod.mk.injEq,and_true]
  unfold szV
  split<;>split<;>omega
 ·rw[zga hn,zga (by omega),hneg]
theorem zs0 {n:Nat} {k:Int} (h0:0≤k) (h1:k≤1048576) {G:(Int×Unit)×Unit→Option ((Int×Unit)×Unit)} (hneg:G ((-1,()),())=some ((-1,()),())) (hK:∀ k':Int,decide (k'<0)=false→G ((k',()),())=some ((k',()),())):
  (zgb n k).bind G=zgb n k:=by
 have:=y1i (n:=n) (m:=0) h0 h1 hneg fun k' h h2 h3=>(hK k' h).trans (by simp[zgb,szV,h2])
 simpa using this
theorem y1j {n:Nat} {k:Int} (h0:0≤k) {G:(Int×Unit)×Unit→Option ((Bool×Unit)×Unit)} (hneg:G ((-1,()),())=some ((true,()),())) (hK:(n:Int)≤k→∀ r:Int,decide (r<0)=false→G ((r,()),())=some ((true,()),())):
  (zgb n k).bind G=some ((true,()),()):=by
 simp only[zgb,Option.bind_some]
 by_cases hn:(n:Int)≤k
 ·rw[znu hn]
  exact hK hn _ (decide_eq_false (by omega))
 ·rw[zga hn]; exact hneg
theorem ziw {a r:Bool} {K:Option ((Bool×Unit)×Unit)} (hK:K=some ((r,()),())):(if (!a)=true then (some ((false,()),())) else K)=some ((a&&r,()),()):=by
 subst hK
 cases a<;>simp
theorem z7k {a b:Int} {r:Bool} {K:Option ((Bool×Unit)×Unit)} (hK:K=some ((r,()),())):(if (a != b) then (some ((false,()),())) else K)=some ((same a b&&r,()),()):=by
 subst hK
 rw[zo7]
 cases same a b<;>simp
def inn (n lo hi:Int):Bool:=decide (lo≤n)&&decide (n≤hi)
theorem zov {n lo hi:Int}:inn n lo hi=true↔lo≤n∧n≤hi:=by simp[inn]
theorem z49 (a b c:Int):z0r a b c=some ((inn a b c,()),()):=by
 unfold z0r zgg inn
 by_cases h:b≤a<;>simp[h]
theorem z2z (a b c:Int):z0y a b c=some ((inn a b c,()),()):=by
 unfold z0y zcz inn
 by_cases h:b≤a<;>simp[h]
def grp (n:Int):Bool:=n==3||n==5
theorem zir {n:Int}:grp n=true↔n=3∨n=5:=by simp[grp]
theorem zkc (n:Int):z7t n=some ((grp n,()),()):=by
 unfold z7t zba grp
 by_cases h:n=3<;>simp[h]
theorem zf2 (n:Int):z5c n=some ((grp n,()),()):=by
 unfold z5c zbk grp
 by_cases h:n=3<;>simp[h]
theorem zck (l:List Int) (n:Int) (hl:l.length≤maxLen):z5z l n=some ((l.contains n,()),()):=by
 unfold z5z
 refine z0q (l.length+1) fun N hN=>?_
 unfold zef
 refine z06 l hl (fun i (s:Unit)=>((n,l,(l.length:Int),(i:Int),()),())) (fun i t s=>((t.contains n,()),())) (fun i t s=>True)
  () rfl rfl trivial hN (fun rec s h=>?_) (fun rec i b t s hat h hrec=>?_)
 ·dsimp only
  simp
 ·dsimp only
  simp only[hat.lt,hat.nn,hat.wrap,hat.rd,decide_true,if_true,List.contains_cons]
  by_cases hb:b=n
  ·simp[hb]
  ·have:(b==n)=false:=by simpa using hb
   have h2:(n==b)=false:=by simpa using fun h:n=b=>hb h.symm
   simp only[this,h2,Bool.false_eq_true,if_false,Bool.false_or]
   exact hrec () trivial
def idxI {β:Type} (q:β→Bool):List β→Int→Int
 | [],_=>-1
 | b::t,i=>if q b then i else idxI q t (i+1)
theorem z96 {β:Type} (q:β→Bool):∀ (l:List β) (i:Int),0≤i→decide (idxI q l i≥0)=l.any q
 | [],i,h=>by simp[idxI]
 | b::t,i,h=>by
  cases hb:q b with
  | true=>simp[idxI,hb,h]
  | false=>simp only[idxI,hb,Bool.false_eq_true,if_false,List.any_cons,Bool.false_or]; exact z96 q t (i+1) (by omega)
theorem zhu {β:Type} (z:β) (l:List β) (hl:l.length≤maxLen) (p:(β×Unit)→Option Bool) (q:β→Bool) (hp:∀ x∈l,p (x,())=some (q x)) {N:Nat} (hN:l.length<N):
  (z0i N (fun rec1 (d2:(List β×((β×Unit)→Option Bool)×Int×Int×Unit)×(Unit))=>(if (decide (d2.1.2.2.2.1<d2.1.2.2.1)) then (if (decide (0≤d2.1.2.2.2.1)) then (if (decide (d2.1.2.2.2.1<d2.1.1.length)) then ((d2.1.2.1 ((rd d2.1.1 d2.1.2.2.2.1 z),())).bind fun y3=>(if y3 then (some ((d2.1.2.2.2.1,()),())) else (rec1 ((d2.1.1,d2.1.2.1,d2.1.2.2.1,(IntKind.i64.wrap (d2.1.2.2.2.1+(1:Int))),()),(()))))) else none) else none) else (some (((-1:Int),()),())))) ((l,p,(l.length:Int),(0:Int),()),(())))
   = some ((idxI q l 0,()),()):=by
 refine z06 l hl (fun i (s:Unit)=>((l,p,(l.length:Int),(i:Int),()),())) (fun i t s=>((idxI q t (i:Int),()),())) (fun i t s=>True)
  () rfl rfl trivial hN (fun rec s h=>?_) (fun rec i b t s hat h hrec=>?_)
 ·dsimp only
  simp[idxI]
 ·dsimp only
  simp only[hat.lt,hat.nn,hat.wrap,hat.rd,decide_true,if_true,hp b hat.mem,Option.bind_some,idxI]
  cases q b with
  | true=>simp
  | false=>simp only[Bool.false_eq_true,if_false]; exact hrec () trivial
theorem zaw {l:List (List Int)} {p:(List Int×Unit)→Option Bool} (q:List Int→Bool) (hl:l.length≤maxLen) (hp:∀ x∈l,p (x,())=some (q x)):z2l l p=some ((idxI q l 0,()),()):=
 z0q (l.length+1) fun N hN=>zhu [] l hl p q hp hN
theorem zj1 {l:List Int} {p:(Int×Unit)→Option Bool} (q:Int→Bool) (hl:l.length≤maxLen) (hp:∀ x∈l,p (x,())=some (q x)):z56 l p=some ((idxI q l 0,()),()):=
 z0q (l.length+1) fun N hN=>zhu 0 l hl p q hp hN
theorem z8d {l:List (List Int)} {p:(List Int×Unit)→Option Bool} (q:List Int→Bool) (hl:l.length≤maxLen) (hp:∀ x∈l,p (x,())=some (q x)):z1v l p=some ((l.any q,()),()):=by
 unfold z1v z2y
 rw[zaw q hl hp]
 simp only[Option.bind_some,z96 q l 0 (Int.le_refl 0)]
theorem z93 {l:List Int} {p:(Int×Unit)→Option Bool} (q:Int→Bool) (hl:l.length≤maxLen) (hp:∀ x∈l,p (x,())=some (q x)):z1f l p=some ((l.any q,()),()):=by
 unfold z1f z3e
 rw[zj1 q hl hp]
 simp only[Option.bind_some,z96 q l 0 (Int.le_refl 0)]
theorem zpj {l:List Int} {n:Int} (hl:l.length≤maxLen):z5n l n=some ((idxI (fun b=>n==b) l 0,()),()):=by
 unfold z5n
 refine z0q (l.length+1) fun N hN=>?_
 unfold z8q
 refine z06 l hl (fun i (s:Unit)=>((l,n,(l.length:Int),(i:Int),()),())) (fun i t s=>((idxI (fun b=>n==b) t (i:Int),()),())) (fun i t s=>True)
  () rfl rfl trivial hN (fun rec s h=>?_) (fun rec i b t s hat h hrec=>?_)
 ·dsimp only
  simp[idxI]
 ·dsimp only
  simp only[hat.lt,hat.nn,hat.wrap,hat.rd,decide_true,if_true,idxI]
  rcases Bool.eq_false_or_eq_true (n==b) with hb | hb
  ·simp only[hb,if_true]
  ·simp only[hb,Bool.false_eq_true,if_false]; exact hrec () trivial
theorem zdy {l:List Int} {n:Int} (hl:l.length≤maxLen):z1r l n=some ((l.contains n,()),()):=by
 unfold z1r z5q
 rw[zpj hl]
 simp only[Option.bind_some,z96 _ l 0 (Int.le_refl 0),List.any_beq]
theorem zgi {β:Type} (l:List β) (q:β→Bool):(!l.any fun x=>!q x)=l.all q:=by
 induction l with
 | nil=>rfl
 | cons b t ih=>rw[List.any_cons,List.all_cons,Bool.not_or,Bool.not_not,ih]
def cmpI (a b:Int):Int:=if a<b then -1 else if a > b then 1 else 0
theorem zmt (a b:Int):z4w a b=some ((cmpI a b,()),()):=by
 unfold z4w z79 z6t z9y cmpI
 by_cases h:a<b
 ·simp[h]
 ·by_cases h2:b<a<;>simp[h,h2]
def cmpL:List Int→List Int→Int
 | [],[]=>0
 | [],_::_=>-1
 | _::_,[]=>1
 | a::s,b::t=>if cmpI a b != 0 then cmpI a b else cmpL s t
theorem zmf (l m:List Int) (hl:l.length≤maxLen) (hm:m.length≤maxLen):z27 l m=some ((cmpL l m,()),()):=by
 unfold z27
 refine z0q (l.length+1) fun N hN=>?_
 unfold z6a
 refine z06 l hl (fun i (s:Unit)=>((l,m,l,(l.length:Int),(i:Int),()),())) (fun i t s=>((cmpL t (m.drop i),()),())) (fun i t s=>i≤m.length)
  () rfl rfl (by omega) hN (fun rec s h=>?_) (fun rec i b t s hat h hrec=>?_)
 ·dsimp only
  simp only[z00,decide_false,Bool.false_eq_true,if_false]
  rcases Nat.lt_or_ge l.length m.length with h1 | h1
  ·rw[List.drop_eq_getElem_cons h1,decide_eq_true (by omega)]; rfl
  ·rw[List.drop_eq_nil_of_le h1,decide_eq_false (by omega)]; rfl
 ·dsimp only
  simp only[hat.lt,hat.nn,hat.wrap,hat.rd,decide_true,if_true]
  rcases Nat.lt_or_ge i m.length with h1 | h1
  ·have hb:=At.of hm (List.drop_eq_getElem_cons h1)
   rw[decide_eq_false (by omega)]
   simp only[hb.lt,hb.rd,hb.drop,Bool.false_eq_true,if_false,decide_true,if_true,zmt,Option.bind_some,cmpL]
   by_cases hc:(cmpI b (m[i]'h1) != 0)=true
   ·simp[hc]
   ·simp only[hc]; exact hrec () (by omega)
  ·rw[List.drop_eq_nil_of_le h1,decide_eq_true (by omega)]; rfl
theorem zo2 (l:List Int) (lo hi:Int) (hl:l.length≤maxLen):zao l lo hi=some ((l.all (fun b=>inn b lo hi),()),()):=by
 unfold zao
 refine z0q (l.length+1) fun N hN=>?_
 unfold zeg
 refine z06 l hl (fun i (s:Unit)=>((lo,hi,l,(l.length:Int),(i:Int),()),())) (fun i t s=>((t.all (fun b=>inn b lo hi),()),())) (fun i t s=>True)
  () rfl rfl trivial hN (fun rec s h=>?_) (fun rec i b t s hat h hrec=>?_)
 ·dsimp only
  simp
 ·dsimp only
  simp only[hat.lt,hat.nn,hat.wrap,hat.rd,decide_true,if_true,z49,Option.bind_some,List.all_cons]
  cases hb:inn b lo hi with
  | false=>simp
  | true=>simp only[Bool.not_true,Bool.false_eq_true,if_false,Bool.true_and]; exact hrec () trivial
theorem y0d:EqOk z3v:=fun a b ha hb=>by
 unfold z3v zbg
 simp only[y0c _ _ ha.1 hb.1,zta _ _ ha.2.1 hb.2.1,Option.bind_some]
 refine (ziw (ziw rfl)).trans ?_
 simp only[z28 a,z28 a.2,ze9]
theorem y2r:ToOk zaq:=fun x h=>by
 unfold zaq zei
 rfl
theorem y6r:EqOk zat:=fun a b ha hb=>by
 unfold zat zel
 refine (z7k (z7k (z7k (z7k (z7k rfl))))).trans ?_
 simp only[z28 a,z28 a.2,z28 a.2.2,z28 a.2.2.2,z28 a.2.2.2.2,ze9]
theorem y1m:SzOk z9c:=fun x k h0 h1 hl=>by
 unfold z9c zcw
 have e:Cnt.cnt x=Cnt.cnt x.2.1:=by simp only[z6g,z6h,z6i,z4h]; omega
 rw[e]
 rw[y1l _ _ h0 h1 hl.2.1]
 exact zs0 h0 h1 rfl fun k' hk=>by simp only[hk,Bool.false_eq_true,if_false]
theorem y5o:SzOk zar:=fun x k h0 h1 hl=>by
 unfold zar zej
 have e:Cnt.cnt x=Cnt.cnt x.2.2.2.2.1:=by simp only[z6g,z6h,z6i,z4h]; omega
 rw[e]
 rw[y1m _ _ h0 h1 hl.2.2.2.2.1]
 exact zs0 h0 h1 rfl fun k' hk=>by simp only[hk,Bool.false_eq_true,if_false]
theorem y1k:SzOk zdo:=fun x k h0 h1 hl=>z0q (x.length+1) fun N hN=>zw3 y5o _ x k h0 h1 hl hN
theorem zz7:SzOk zbq:=fun x k h0 h1 hl=>z0q (x.length+1) fun N hN=>zw3 y1k _ x k h0 h1 hl hN
theorem zz6:SzOk z7v:=fun x k h0 h1 hl=>by
 unfold z7v zbe
 have e:Cnt.cnt x=Cnt.cnt x.2.1:=by simp only[z6g,z6h,z6i,z4h]; omega
 rw[e]
 rw[zz7 _ _ h0 h1 hl.2.1]
 exact zs0 h0 h1 rfl fun k' hk=>by simp only[hk,Bool.false_eq_true,if_false]
theorem y1f:ToOk z9a:=fun x h=>by
 unfold z9a zcu
 simp only[z6g,z6h,z6i,z4h] at h
 have e:Cnt.cnt x.2.1≤1048576:=by (first | omega | (simp only[z6g,z6h,z6i,z4h]; omega))
 simp only[y1e x.2.1 e,Option.bind_some]
theorem y2q:ToOk zap:=fun x h=>by
 unfold zap zeh
 simp only[z6g,z6h,z6i,z4h] at h
 have e:Cnt.cnt x.2.2.2.1≤1048576∧Cnt.cnt x.2.2.2.2.1≤1048576:=by refine⟨?_,?_⟩<;>(first | omega | (simp only[z6g,z6h,z6i,z4h]; omega))
 simp only[y2r x.2.2.2.1 e.1,y1f x.2.2.2.2.1 e.2,Option.bind_some]
theorem y1d:ToOk zdm:=fun x h=>z0q (x.length+1) fun N hN=>zrz y2q _ 96 (by omega) x h hN
theorem zz5:ToOk zbp:=fun x h=>z0q (x.length+1) fun N hN=>zrz y1d _ 24 (by omega) x h hN
theorem zz4:ToOk z30:=fun x h=>by
 unfold z30 zbd
 simp only[z6g,z6h,z6i,z4h] at h
 have e:Cnt.cnt x.2.1≤1048576:=by (first | omega | (simp only[z6g,z6h,z6i,z4h]; omega))
 simp only[zz5 x.2.1 e,Option.bind_some]
theorem y2i:EqOk z9d:=fun a b ha hb=>by
 unfold z9d zcy
 simp only[zta _ _ ha.2.1 hb.2.1,Option.bind_some]
 refine (z7k (ziw rfl)).trans ?_
 simp only[z28 a,z28 a.2,ze9]
theorem y6q:EqOk zas:=fun a b ha hb=>by
 unfold zas zek
 simp only[y6r _ _ ha.2.2.2.1 hb.2.2.2.1,y2i _ _ ha.2.2.2.2.1 hb.2.2.2.2.1,Option.bind_some]
 refine (z7k (z7k (z7k (ziw (ziw rfl))))).trans ?_
 simp only[z28 a,z28 a.2,z28 a.2.2,z28 a.2.2.2,z28 a.2.2.2.2,ze9]
theorem y2h:EqOk zdp:=fun a b ha hb=>z0q (a.length+1) fun N hN=>zp7 y6q _ a b ha hb hN
theorem y0b:EqOk zbr:=fun a b ha hb=>z0q (a.length+1) fun N hN=>zp7 y2h _ a b ha hb hN
theorem y0a:EqOk z7w:=fun a b ha hb=>by
 unfold z7w zbf
 simp only[y0b _ _ ha.2.1 hb.2.1,Option.bind_some]
 refine (z7k (ziw rfl)).trans ?_
 simp only[z28 a,z28 a.2,ze9]
def ze2 (b:T7):Nat:=9+List.length b.2.2.2.2.1.2.1
def z9g (l:List (T7)):Nat:=z0t ze2 l
noncomputable def y0w (k:Int) (b:T7):T7:=(k,k+1,k+1+1,(k+1+1+1,k+1+1+1+1,k+1+1+1+1+1,k+1+1+1+1+1+1,k+1+1+1+1+1+1+1,()),(k+1+1+1+1+1+1+1+1,zhq (k+1+1+1+1+1+1+1+1+1) (b.2.2.2.2.1.2.1).length,()),())
noncomputable def zrx:Int→List (T7)→List (T7)
 | _,[]=>[]
 | k,b::t=>y0w k b::zrx (k+(ze2 b:Int)) t
theorem zx9 {l:List (T7)} {k:Int} (hl:WL.wl l) (h0:0<k) (hk:k+(z9g l:Int)≤4611686018427387904):z36 l k=some ((k+(z9g l:Int),()),(zrx k l,())):=by
 unfold z36
 refine z0q (l.length+1) fun N hN=>?_
 unfold z9s
 refine zew l hl.1 (fun i xs (s:Int)=>((s,(i:Int),()),(xs,()))) (fun dn t s=>((s+(z9g t:Int),()),(dn++zrx s t,()))) (fun dn t s=>0<s∧s+(z9g t:Int)≤4611686018427387904∧∀ x∈t,WL.wl x)
  k rfl rfl ⟨h0,hk,hl.2⟩ hN (fun rec dn s hd hs=>?_) (fun rec dn b t s hat hs hrec=>?_)
 ·dsimp only
  simp[zrx,z9g,z0t]
 ·obtain⟨h1,h2,h3⟩:=hs
  have hu:(z9g (b::t):Int)=(ze2 b:Int)+(z9g t:Int):=by simp only[z9g,z0t]; omega
  have hb:(ze2 b:Int)=9+(List.length b.2.2.2.2.1.2.1:Int):=by simp only[ze2]; omega
  rw[hu,hb] at h2
  have c0:=zl7 (l:=b.2.2.2.2.1.2.1) (k:=s+1+1+1+1+1+1+1+1+1) (by omega) (by omega)
  have w0:IntKind.i64.wrap (s+1)=s+1:=z0b (by omega) (by omega)
  have w1:IntKind.i64.wrap (s+1+1)=s+1+1:=z0b (by omega) (by omega)
  have w2:IntKind.i64.wrap (s+1+1+1)=s+1+1+1:=z0b (by omega) (by omega)
  have w3:IntKind.i64.wrap (s+1+1+1+1)=s+1+1+1+1:=z0b (by omega) (by omega)
  have w4:IntKind.i64.wrap (s+1+1+1+1+1)=s+1+1+1+1+1:=z0b (by omega) (by omega)
  have w5:IntKind.i64.wrap (s+1+1+1+1+1+1)=s+1+1+1+1+1+1:=z0b (by omega) (by omega)
  have w6:IntKind.i64.wrap (s+1+1+1+1+1+1+1)=s+1+1+1+1+1+1+1:=z0b (by omega) (by omega)
  have w7:IntKind.i64.wrap (s+1+1+1+1+1+1+1+1)=s+1+1+1+1+1+1+1+1:=z0b (by omega) (by omega)
  have w8:IntKind.i64.wrap (s+1+1+1+1+1+1+1+1+1)=s+1+1+1+1+1+1+1+1+1:=z0b (by omega) (by omega)
  dsimp only
  simp only[zev,zer,decide_true,if_true,Int.toNat_natCast,z8g,zea,hat.wrap,w0,w1,w2,w3,w4,w5,w6,w7,w8,c0]
  rw[Option.bind_some]
  simp only[zev,zer,decide_true,if_true,Int.toNat_natCast,z8g,zea,w0,w1,w2,w3,w4,w5,w6,w7,w8,c0]
  rw[Option.bind_some]
  simp only[zev,zer,decide_true,if_true,Int.toNat_natCast,z8g,zea,w0,w1,w2,w3,w4,w5,w6,w7,w8,c0]
  rw[Option.bind_some]
  simp only[zev,zer,decide_true,if_true,Int.toNat_natCast,z8g,zea,w0,w1,w2,w3,w4,w5,w6,w7,w8,c0]
  rw[Option.bind_some]
  simp only[zev,zer,decide_true,if_true,Int.toNat_natCast,z8g,zea,w0,w1,w2,w3,w4,w5,w6,w7,w8,c0]
  rw[Option.bind_some]
  simp only[zev,zer,decide_true,if_true,Int.toNat_natCast,z8g,zea,w0,w1,w2,w3,w4,w5,w6,w7,w8,c0]
  rw[Option.bind_some]
  simp only[zev,zer,decide_true,if_true,Int.toNat_natCast,z8g,zea,w0,w1,w2,w3,w4,w5,w6,w7,w8,c0]
  rw[Option.bind_some]
  simp only[zev,zer,decide_true,if_true,Int.toNat_natCast,z8g,zea,w0,w1,w2,w3,w4,w5,w6,w7,w8,c0]
  rw[Option.bind_some]
  simp only[zev,zer,decide_true,if_true,Int.toNat_natCast,z8g,zea,w0,w1,w2,w3,w4,w5,w6,w7,w8,c0]
  rw[Option.bind_some]
  simp only[zev,zer,decide_true,if_true,Int.toNat_natCast,z8g,zea,w0,w1,w2,w3,w4,w5,w6,w7,w8,c0]
  rw[Option.bind_some]
  simp only[zev,zer,decide_true,if_true,Int.toNat_natCast,z8g,zea,w0,w1,w2,w3,w4,w5,w6,w7,w8,c0]
  refine (hrec (y0w s b) (s+1+1+1+1+1+1+1+1+1+(List.length b.2.2.2.2.1.2.1:Int)) ⟨by omega,by omega,fun x hx=>h3 x (by simp[hx])⟩).trans ?_
  have hk':s+1+1+1+1+1+1+1+1+1+(List.length b.2.2.2.2.1.2.1:Int)=s+(ze2 b:Int):=by omega
  simp only[zrx,List.append_assoc,List.singleton_append,Option.some.injEq,Prod.mk.injEq,and_true,hk']
  omega
theorem zss:zyz z36 z9g:=fun l k hl h0 hk=>⟨_,zx9 hl h0 hk⟩
def ze3 (l:List (List (T7))):Nat:=z0t z9g l
noncomputable def zz0 (k:Int) (l:List (List (T7))):List (List (T7)):=zhn z36 k l
theorem zv1 {l:List (List (T7))} {k:Int} (hl:WL.wl l) (h0:0<k) (hk:k+(ze3 l:Int)≤4611686018427387904):z8x l k=some ((k+(ze3 l:Int),()),(zz0 k l,())):=
 z0q (l.length+1) fun N hN=>zqp zss _ l k h0 hl hk hN
theorem zby (n:Int):z3p n=some ((inn n 0 3,()),()):=by
 unfold z3p z8i; rw[z49]; rfl
theorem zio (n:Int):z2q n=some ((inn n 0 3,()),()):=by
 unfold z2q z8n; rw[z2z]; rfl
def zcmd (c:T2):Bool:=(c.1==0&&(c.2.1==0&&(c.2.2.1==0&&(c.2.2.2.1==0&&(c.2.2.2.2.1==0&&true)))))
def gcmd (c:T2):Bool:=
 if c.1==0 then zcmd c
 else if c.1==1 then inn c.2.1 1 999&&(inn c.2.2.1 0 3&&(inn c.2.2.2.1 0 3&&((c.2.2.1 != c.2.2.2.1)&&inn c.2.2.2.2.1 1 1000)))
 else if c.1==2 then inn c.2.1 1 999&&(inn c.2.2.1 0 3&&((c.2.2.2.1==0)&&(c.2.2.2.2.1==0))) else false
theorem zlp (c:T2):z80 c=some ((gcmd c,()),()):=by
 unfold z80 zbl gcmd
 simp only[z2z,zio,Option.bind_some]
 split
 ·rfl
 ·split
  ·cases inn c.2.1 1 999<;>cases inn c.2.2.1 0 3<;>cases inn c.2.2.2.1 0 3<;>cases (c.2.2.1 != c.2.2.2.1)<;>simp
  ·split
   ·cases inn c.2.1 1 999<;>cases inn c.2.2.1 0 3<;>cases (c.2.2.2.1==0)<;>simp
   ·rfl
theorem zsz (c:T2) (h:(c.1==(1:Int))=true):∃ k:Int,z3k c=some ((k,()),())∧(k==0)=(inn c.2.1 1 999&&(inn c.2.2.1 0 3&&(inn c.2.2.2.1 0 3&&((c.2.2.1 != c.2.2.2.1)&&inn c.2.2.2.2.1 1 1000)))):=by
 unfold z3k z95
 simp only[h,if_true]
 simp only[z49,zby,Option.bind_some]
 have hb:(c.2.2.1 != c.2.2.2.1)=!(c.2.2.1==c.2.2.2.1):=rfl
 rw[hb]
 generalize inn c.2.1 1 999=a
 generalize inn c.2.2.1 0 3=b
 generalize inn c.2.2.2.1 0 3=d
 generalize inn c.2.2.2.2.1 1 1000=e
 generalize (c.2.2.1==c.2.2.2.1)=f
 cases a<;>cases b<;>cases d<;>cases e<;>cases f<;>exact⟨_,rfl,rfl⟩
theorem zsy (c:T2) (h:(c.1==(1:Int))=false):∃ k:Int,z3k c=some ((k,()),())∧(k==0)=(inn c.2.1 1 999&&inn c.2.2.1 0 3):=by
 unfold z3k z95
 simp only[h,Bool.false_eq_true,if_false]
 simp only[z49,zby,Option.bind_some]
 generalize inn c.2.1 1 999=a
 generalize inn c.2.2.1 0 3=b
 cases a<;>cases b<;>exact⟨_,rfl,rfl⟩
theorem zkd (c:T2):z7u c=some ((gcmd c,()),()):=by
 unfold z7u zbb gcmd
 split
 ·rfl
 ·split
  ·rename_i h1
   obtain⟨k,e1,e2⟩:=zsz c h1
   rw[e1,Option.bind_some,e2]
  ·split
   ·rename_i h0 h1 h2
    obtain⟨k,e1,e2⟩:=zsy c (by simpa using h1)
    rw[e1,Option.bind_some,e2]
    generalize inn c.2.1 1 999=a
    generalize inn c.2.2.1 0 3=b
    generalize (c.2.2.2.1==(0:Int))=d
    cases a<;>cases b<;>cases d<;>rfl
   ·rfl
theorem zb0 (a b:List Int) (ha:a.length≤maxLen) (hb:b.length≤maxLen):z6n a b=some ((same a b,()),()):=by
 unfold z6n
 refine z0q (a.length+1) fun N hN=>?_
 unfold zct
 by_cases hlen:a.length=b.length
 ·have h1:((a.length:Int) != (b.length:Int))=false:=by simp[hlen]
  rw[h1]
  simp only[Bool.false_eq_true,if_false]
  refine z06 a ha (fun i (s:Unit)=>((a,b,(a.length:Int),(i:Int),()),())) (fun i t s=>((same t (b.drop i),()),())) (fun i t s=>True)
   () rfl (by simp) trivial hN (fun rec s h=>?_) (fun rec i c t s hat h hrec=>?_)
  ·dsimp only
   simp[hlen,zh7]
  ·have hlt:=hat.ltn
   have hd:b.drop i=b[i]'(by omega)::b.drop (i+1):=List.drop_eq_getElem_cons (by omega)
   have hb':=At.of hb hd
   dsimp only
   simp only[hat.lt,hb'.lt,hat.nn,hat.wrap,hat.rd,hb'.rd,decide_true,if_true,hd,zqa,zo7]
   cases same c (b[i]'(by omega)) with
   | false=>simp
   | true=>
    simp only[Bool.not_true,Bool.false_eq_true,if_false,Bool.true_and]
    exact hrec () trivial
 ·have h1:((a.length:Int) != (b.length:Int))=true:=by simp; omega
  rw[h1]
  have:same a b=false:=by rw[Bool.eq_false_iff]; intro h; rw[z1c] at h; subst h; exact hlen rfl
  simp[this]
theorem z9e (a b:List Int) (ha:a.length≤maxLen) (hb:b.length≤maxLen):z3r a b=some ((same a b,()),()):=zb0 a b ha hb
noncomputable def z7d (a b:T6):Bool:=(a.1==b.1)&&same a.2.1 b.2.1
theorem zjf (a b:T6) (ha:a.2.1.length≤maxLen) (hb:b.2.1.length≤maxLen):z6p a b=some ((z7d a b,()),()):=by
 unfold z6p z9r z7d
 rw[zb0 _ _ ha hb]
 cases (a.1==b.1)<;>simp
theorem zjk (a b:T6) (ha:a.2.1.length≤maxLen) (hb:b.2.1.length≤maxLen):z6r a b=some ((z7d a b,()),()):=by
 unfold z6r z9w z7d
 rw[z9e _ _ ha hb]
 cases (a.1==b.1)<;>simp
def ze0 (n:Int):T6:=(0,List.replicate n.toNat 0,())
theorem zql {n:Int} (h:grp n=true):(ze0 n).2.1.length≤maxLen:=by
 rw[zir] at h; rw[z03]; simp[ze0]; omega
theorem zaz {n:Int} (h:grp n=true):z6m n=some ((ze0 n,()),()):=by
 rw[zir] at h
 rcases h with rfl | rfl<;>rfl
theorem z8v {n:Int} (h:grp n=true):z4k n=some ((ze0 n,()),()):=by
 rw[zir] at h
 rcases h with rfl | rfl<;>rfl
def zal (n:Int) (a:T6):Bool:=inn a.1 0 999&&(((a.2.1.length:Int)==n)&&a.2.1.all fun b=>inn b 0 6)
theorem zmj (n:Int) (a:T6) (ha:a.2.1.length≤maxLen):z99 n a=some ((zal n a,()),()):=by
 unfold z99 zcs zal
 simp only[z49,zo2 _ _ _ ha,Option.bind_some]
 cases inn a.1 0 999<;>cases ((a.2.1.length:Int)==n)<;>simp
theorem zjl {n:Int} (h:grp n=true) (a:T6) (ha:a.2.1.length≤maxLen):z6s n a=some ((zal n a,()),()):=by
 unfold z6s z9x zal
 simp only[zf2,h,if_true,z2z,Option.bind_some]
 rw[z93 (fun b=>!inn b 0 6) ha (fun x _=>rfl)]
 simp only[Option.bind_some,zgi]
 cases inn a.1 0 999<;>cases ((a.2.1.length:Int)==n)<;>simp
theorem zma {n:Int} (h:grp n=true) (a:T6) (hs:z7d a (ze0 n)=true):zal n a=true:=by
 simp only[z7d,Bool.and_eq_true,beq_iff_eq,z1c] at hs
 obtain⟨h1,h2⟩:=hs
 rw[zir] at h
 simp only[zal,h1,h2,ze0]
 rcases h with rfl | rfl<;>rfl
noncomputable def zjh (n:Int) (r:T7):Bool:=
 inn r.1 0 9999&&(inn r.2.1 0 r.1&&(inn r.2.2.1 0 3&&(if r.2.2.1==0 then (r.2.1==0)&&(zcmd r.2.2.2.1&&z7d r.2.2.2.2.1 (ze0 n)) else gcmd r.2.2.2.1&&zal n r.2.2.2.2.1)))
theorem zo1 {n:Int} (h:grp n=true) (r:T7) (ha:r.2.2.2.2.1.2.1.length≤maxLen):zam n r=some ((zjh n r,()),()):=by
 unfold zam zeb zjh
 simp only[z49,Option.bind_some]
 rw[zaz h,Option.bind_some,zjf _ _ ha (zql h),zkd,Option.bind_some,zmj n _ ha,Option.bind_some]
 have hz:zcmd r.2.2.2.1=(r.2.2.2.1.1==(0:Int)&&(r.2.2.2.1.2.1==(0:Int)&&(r.2.2.2.1.2.2.1==(0:Int)&&(r.2.2.2.1.2.2.2.1==(0:Int)&&(r.2.2.2.1.2.2.2.2.1==(0:Int)&&true))))):=rfl
 rw[←hz]
 generalize inn r.1 0 9999=a
 generalize inn r.2.1 0 r.1=b
 generalize inn r.2.2.1 0 3=c
 generalize (r.2.2.1==(0:Int))=d
 generalize (r.2.1==(0:Int))=e
 generalize zcmd r.2.2.2.1=f
 generalize z7d r.2.2.2.2.1 (ze0 n)=g
 generalize gcmd r.2.2.2.1=i
 generalize zal n r.2.2.2.2.1=j
 cases a<;>cases b<;>cases c<;>cases d<;>cases e<;>cases f<;>cases i<;>rfl
theorem zvs {c:T2} (h:zcmd c=true):gcmd c=true:=by
 have h0:(c.1==0)=true:=by simp only[zcmd,Bool.and_eq_true] at h; exact h.1
 unfold gcmd
 rw[if_pos h0]; exact h
theorem zlm {n:Int} (h:grp n=true) (r:T7) (ha:r.2.2.2.2.1.2.1.length≤maxLen):z7y n r=some ((zjh n r,()),()):=by
 unfold z7y zbi zjh
 rw[z2z,z2z,z2z,zlp,zjl h _ ha,z8v h,Option.bind_some,Option.bind_some,Option.bind_some,Option.bind_some,Option.bind_some,Option.bind_some,zjk _ _ ha (zql h),Option.bind_some]
 have hz:zcmd r.2.2.2.1=(r.2.2.2.1.1==(0:Int)&&(r.2.2.2.1.2.1==(0:Int)&&(r.2.2.2.1.2.2.1==(0:Int)&&(r.2.2.2.1.2.2.2.1==(0:Int)&&(r.2.2.2.1.2.2.2.2.1==(0:Int)&&true))))):=rfl
 rw[←hz]
 have k1:zcmd r.2.2.2.1=true→gcmd r.2.2.2.1=true:=zvs
 have k2:z7d r.2.2.2.2.1 (ze0 n)=true→zal n r.2.2.2.2.1=true:=zma h _
 have hd:(r.2.2.1 != (0:Int))=!(r.2.2.1==(0:Int)):=rfl
 rw[hd]
 revert k1 k2
 generalize inn r.1 0 9999=a
 generalize inn r.2.1 0 r.1=b
 generalize inn r.2.2.1 0 3=c
 generalize (r.2.2.1==(0:Int))=d
 generalize (r.2.1==(0:Int))=e
 generalize zcmd r.2.2.2.1=f
 generalize z7d r.2.2.2.2.1 (ze0 n)=g
 generalize gcmd r.2.2.2.1=i
 generalize zal n r.2.2.2.2.1=j
 intro k1 k2
 cases a<;>cases b<;>cases c<;>cases d<;>cases i<;>cases j<;>cases e<;>cases f<;>cases g<;>first | rfl | (exact absurd (k1 rfl) (by decide)) | (exact absurd (k2 rfl) (by decide))
noncomputable def zhr (n:Int) (l:List T7):Bool:=decide ((l.length:Int)≤6)&&l.all (zjh n)
noncomputable def z8e (t:T8):Bool:=grp t.1&&(((t.2.1.length:Int)==t.1)&&t.2.1.all (zhr t.1))
theorem zgx {l:List T7} {p:(T7×Unit)→Option Bool} (q:T7→Bool) (hl:l.length≤maxLen) (hp:∀ x∈l,p (x,())=some (q x)):z0s l p=some ((l.any q,()),()):=by
 unfold z0s z1d
 rw[show z1y l p=some ((idxI q l 0,()),()) from z0q (l.length+1) fun N hN=>zhu _ l hl p q hp hN]
 simp only[Option.bind_some,z96 q l 0 (Int.le_refl 0)]
theorem zfw {l:List (List T7)} {p:(List T7×Unit)→Option Bool} (q:List T7→Bool) (hl:l.length≤maxLen) (hp:∀ x∈l,p (x,())=some (q x)):z0p l p=some ((l.any q,()),()):=by
 unfold z0p z15
 rw[show z1h l p=some ((idxI q l 0,()),()) from z0q (l.length+1) fun N hN=>zhu _ l hl p q hp hN]
 simp only[Option.bind_some,z96 q l 0 (Int.le_refl 0)]
theorem y0n {l:List (List T7)} (h:WL.wl l) {x:List T7} (hx:x∈l) {r:T7} (hr:r∈x):r.2.2.2.2.1.2.1.length≤maxLen:=(zj2 (zj2 h hx) hr).2.2.2.2.1.2.1.1
theorem zip (t:T8) (hl:WL.wl t):z5m t=some ((z8e t,()),()):=by
 unfold z5m z8p z8e
 simp only[zf2,Option.bind_some]
 cases hg:grp t.1 with
 | false=>simp
 | true=>
  simp only[if_true,Bool.true_and]
  rw[zfw (fun x=>!zhr t.1 x) hl.2.1.1 (fun x hx=>by
   dsimp only
   by_cases h6:(x.length:Int) > 6
   ·have:¬(x.length:Int)≤6:=by omega
    simp[h6,zhr,this]
   ·have h6':(x.length:Int)≤6:=by omega
    rw[decide_eq_false h6,zgx (fun r=>!zjh t.1 r) (zj2 hl.2.1 hx).1 (fun r hr=>by
     dsimp only
     rw[zlm hg r (y0n hl.2.1 hx hr)]; rfl)]
    simp only[Bool.false_eq_true,if_false,Option.bind_some,zhr,h6',decide_true,Bool.true_and,Option.some.injEq]
    rw[←zgi,Bool.not_not])]
  simp only[Option.bind_some,zgi]
  cases ((t.2.1.length:Int)==t.1)<;>simp
theorem zi8 (t:T8) (hl:WL.wl t):z5j t=some ((z8e t,()),()):=by
 unfold z5j
 refine z0q (t.2.1.length+z0t List.length t.2.1+1) fun N hN=>?_
 unfold z8j z8e
 simp only[zkc,Option.bind_some]
 cases hg:grp t.1 with
 | false=>simp
 | true=>
  simp only[Bool.not_true,Bool.false_eq_true,if_false,Bool.true_and]
  by_cases hlen:(t.2.1.length:Int)=t.1
  ·have h1:((t.2.1.length:Int) != t.1)=false:=by simp[hlen]
   have h2:((t.2.1.length:Int)==t.1)=true:=by simp[hlen]
   simp only[h1,h2,Bool.false_eq_true,if_false,Bool.true_and]
   refine z06 t.2.1 hl.2.1.1 (fun i (s:Unit)=>((t.2.1,(t.2.1.length:Int),(i:Int),()),((t.1,t.2.1,()),()))) (fun i u s=>((u.all (zhr t.1),()),())) (fun i u s=>True)
    () rfl rfl trivial (by omega) (fun rec s h=>?_) (fun rec i b u s hat h hrec=>?_)
   ·dsimp only
    simp
   ·have hbl:b.length≤maxLen:=(zj2 hl.2.1 hat.mem).1
    dsimp only
    simp only[hat.lt,hat.nn,hat.rd,decide_true,if_true,List.all_cons]
    refine z06 b hbl (fun j (s:Unit)=>((b,t.2.1,(t.2.1.length:Int),(i:Int),b,(b.length:Int),(j:Int),()),((t.1,t.2.1,()),()))) (fun j v s=>((v.all (zjh t.1)&&decide ((b.length:Int)≤6)&&u.all (zhr t.1),()),())) (fun j v s=>True)
     () rfl ?_ trivial (by have:=zqt List.length hat.mem; omega) (fun rec2 s h=>?_) (fun rec2 j c v s hat2 h hrec2=>?_)
    ·unfold zhr
     rw[Bool.and_comm (decide _)]
    ·dsimp only
     simp only[z00,decide_false,Bool.false_eq_true,if_false,List.all_nil,Bool.true_and,hat.wrap]
     by_cases h6:(b.length:Int) > 6
     ·rw[decide_eq_true h6,decide_eq_false (by omega)]; rfl
     ·rw[decide_eq_false h6,decide_eq_true (by omega)]
      simp only[Bool.false_eq_true,if_false,Bool.true_and]
      exact hrec () trivial
    ·dsimp only
     simp only[hat2.lt,hat2.nn,hat2.wrap,hat2.rd,decide_true,if_true,zo1 hg c (y0n hl.2.1 hat.mem hat2.mem),Option.bind_some,List.all_cons]
     cases zjh t.1 c with
     | false=>simp
     | true=>simp only[Bool.not_true,Bool.false_eq_true,if_false,Bool.true_and]; exact hrec2 () trivial
  ·have h1:((t.2.1.length:Int) != t.1)=true:=by simp[hlen]
   have h2:((t.2.1.length:Int)==t.1)=false:=by simp[hlen]
   simp[h1,h2]
theorem inn6 {b:Int} (h:inn b 0 6=true):0≤b∧b≤6:=zov.1 h
theorem zlo:z7z=some (([100,100,100,100],()),()):=by
 unfold z7z zbj
 rfl
def upd (is fr to:Bool) (c:T2) (s:List Int):List Int:=
 let s1:=if is&&fr then s.set c.2.2.1.toNat (IntKind.i64.wrap (rd s c.2.2.1 0 - c.2.2.2.2.1)) else s
 if is&&to then s1.set c.2.2.2.1.toNat (IntKind.i64.wrap (rd s1 c.2.2.2.1 0+c.2.2.2.2.1)) else s1
theorem y1c (is fr to:Bool) (c:T2) (s:List Int):(upd is fr to c s).length=s.length:=by
 unfold upd
 cases is<;>cases fr<;>cases to<;>simp
theorem zlv {c:T2} (h:gcmd c=true) (h1:c.1=1):(0≤c.2.2.1∧c.2.2.1≤3)∧(0≤c.2.2.2.1∧c.2.2.2.1≤3):=by
 unfold gcmd inn at h
 rw[h1] at h
 simp at h
 exact⟨h.2.1,h.2.2.1⟩
inductive Rch (E:Nat→Nat→Prop):Nat→Nat→Prop where
 | one {a b:Nat} (h:E a b):Rch E a b
 | more {a b c:Nat} (h:Rch E a b) (k:E b c):Rch E a c
def PE (l:List (List Int)) (a b:Nat):Prop:=[(a:Int),(b:Int)]∈l
noncomputable def cyc (l:List (List Int)):Bool:=open Classical in decide (∃ i,Rch (PE l) i i)
def okP (n:Int) (p:List Int):Bool:=(p.length==2)&&(p.all fun x=>inn x 0 (n - 1))
noncomputable def hr (l:List (List Int)) (n:Int):Bool×Bool×Unit:=if (decide (l.length≤2000)&&inn n 0 60)&&l.all (okP n) then (cyc l,true,()) else (false,false,())
abbrev z60 (r:T7):List Int:=r.2.2.2.2.1.2.1
structure GoodR (R:List (List T7)):Prop where
 n:R.length=3∨R.length=5
 six:∀ x∈R,x.length≤6
 len:∀ x∈R,∀ r∈x,(z60 r).length=R.length
 val:∀ x∈R,∀ r∈x,∀ b∈z60 r,0≤b∧b≤6
theorem GoodR.five {R:List (List T7)} (h:GoodR R):R.length≤5:=by have:=h.n; omega
theorem GoodR.grp {R:List (List T7)} (h:GoodR R):grp (R.length:Int)=true:=by rw[zir]; have:=h.n; omega
theorem GoodR.max {R:List (List T7)} (h:GoodR R):R.length≤maxLen:=by rw[z03]; have:=h.n; omega
theorem zp2 {t:T8} (h:z8e t=true):t=((t.2.1.length:Int),t.2.1,())∧GoodR t.2.1:=by
 simp only[z8e,Bool.and_eq_true,beq_iff_eq,List.all_eq_true] at h
 obtain⟨hg,hn,hall⟩:=h
 have hx:∀ x∈t.2.1,x.length≤6∧∀ r∈x,zal t.1 r.2.2.2.2.1=true:=by
  intro x hx
  have:=hall x hx
  simp only[zhr,Bool.and_eq_true,decide_eq_true_eq,List.all_eq_true] at this
  refine⟨by omega,fun r hr=>?_⟩
  have hr:=this.2 r hr
  simp only[zjh,Bool.and_eq_true] at hr
  have hr:=hr.2.2.2
  split at hr
  ·simp only[Bool.and_eq_true] at hr
   exact zma hg _ hr.2.2
  ·simp only[Bool.and_eq_true] at hr
   exact hr.2
 have ha:∀ x∈t.2.1,∀ r∈x,((z60 r).length:Int)=t.1∧∀ b∈z60 r,inn b 0 6=true:=by
  intro x hx' r hr
  have:=(hx x hx').2 r hr
  simp only[zal,Bool.and_eq_true,beq_iff_eq,List.all_eq_true] at this
  exact this.2
 refine⟨by rw[hn],⟨?_,fun x h=>(hx x h).1,fun x h r hr=>?_,fun x h r hr b hb=>inn6 ((ha x h r hr).2 b hb)⟩⟩
 ·rw[zir] at hg; omega
 ·have:=(ha x h r hr).1; omega
def pl (j c:Nat):List Int:=[(j:Int),((c+1:Nat):Int)]
theorem zwy {l:List Int} (h:l.length≤5):z2e l=some ((l,()),()):=by
 unfold z2e zaf
 have:((([]:List Int).length+l.length)*8≤140737488355328)=True:=by simp; omega
 simp only[this,decide_true,if_true,List.nil_append]
theorem zuf {l:List Int} (h:l.length≤5):z5o l=some ((l,()),()):=by
 unfold z5o z8r
 have:((([]:List Int).length+l.length)*8≤140737488355328)=True:=by simp; omega
 simp only[this,decide_true,if_true,List.nil_append]
 cases l with
 | nil=>simp[zyq]
 | cons a l=>simp
theorem znl {α:Type} {p:α→Option Bool} (q:α→Bool):∀ {xs:List α},(∀ x∈xs,p x=some (q x))→zdb p xs=some (xs.filter fun x=>!q x)
 | [],_=>rfl
 | x::xs,h=>by
  unfold zdb
  rw[h x (by simp),znl q fun y hy=>h y (by simp[hy])]
  cases hq:q x<;>simp[hq]
theorem ztr {m i b:Nat} {t:List Nat} (h:At (List.range m) i b t):b=i∧i<m:=by
 have hl:=h.ltn
 have hg:=h.get
 rw[List.length_range] at hl
 rw[List.getElem?_range hl] at hg
 exact⟨(Option.some.inj hg).symm,hl⟩
theorem y2k (r:T7):Cnt.cnt r=(z60 r).length:=by
 obtain⟨a,b,c,⟨d,e,f,g,h,⟨⟩⟩,⟨i,l,⟨⟩⟩,⟨⟩⟩:=r
 simp only[z6g,z6h,z4h,zud,z60]
 omega
theorem zpo:∀ l:List T7,z9g l≤9*(l.length+z0t Cnt.cnt l)
 | []=>by simp[z9g,z0t]
 | r::l=>by
  have:=zpo l
  have e:z9g (r::l)=ze2 r+z9g l:=rfl
  have e2:ze2 r=9+(z60 r).length:=rfl
  simp only[z0t,List.length_cons,y2k]
  omega
theorem zn1:∀ l:List (List T7),ze3 l≤9*(l.length+z0t Cnt.cnt l)
 | []=>by simp[ze3,z0t]
 | x::l=>by
  have:=zn1 l
  have h:=zpo x
  have e:ze3 (x::l)=z9g x+ze3 l:=rfl
  have e2:Cnt.cnt x=x.length+z0t Cnt.cnt x:=rfl
  simp only[z0t,List.length_cons]
  omega
theorem zt9 {S:List (List Int)} {e:List Int} (hS:WL.wl S) (he:e.length≤maxLen):z1u S e=some ((idxI (fun x=>same e x) S 0,()),()):=by
 unfold z1u
 refine z0q (S.length+1) fun N hN=>?_
 unfold zcq
 refine z06 S hS.1 (fun i (s:Unit)=>((e,S,(S.length:Int),(i:Int),()),())) (fun i t s=>((idxI (fun x=>same e x) t (i:Int),()),())) (fun _ _ _=>True) () rfl rfl trivial hN (fun rec s h=>?_) (fun rec i b t s hat h hrec=>?_)
 ·dsimp only
  simp[idxI]
 ·dsimp only
  simp only[hat.lt,hat.nn,hat.wrap,hat.rd,decide_true,if_true,zb0 e b he (zj2 hS hat.mem).1,Option.bind_some,idxI]
  by_cases hs:same e b=true
  ·simp[hs]
  ·simp only[hs,Bool.false_eq_true,if_false]; exact (hrec () trivial).trans (by simp)
def zmh (s:List Int) (c:T2):T3:=if c.1==2 then (3,rd s c.2.2.1 0,()) else if c.1==1 then (if rd s c.2.2.1 0<c.2.2.2.2.1 then (2,0,()) else (1,0,())) else (0,0,())
def zji (s:List Int) (c:T2):List Int:=if c.1==1 then upd (decide (rd s c.2.2.1 0≥c.2.2.2.2.1)) true true c s else s
theorem zl4 (s:List Int) (c:T2):(zji s c).length=s.length:=by
 unfold zji
 split
 ·exact y1c _ _ _ _ _
 ·rfl
def zmo:List T2→List Int→List Int×List T3
 | [],s=>(s,[])
 | c::t,s=>((zmo t (zji s c)).1,zmh s c::(zmo t (zji s c)).2)
theorem zu7 {c:T2} (h:gcmd c=true) (h2:c.1=2∨c.1=1):0≤c.2.2.1∧c.2.2.1≤3:=by
 rcases h2 with h2 | h2
 ·unfold gcmd inn at h
  rw[h2] at h
  simp at h
  exact h.2.1
 ·exact (zlv h h2).1
theorem zr7 {c:T2} (h:gcmd c=true):c.1=0∨c.1=1∨c.1=2:=by
 unfold gcmd at h
 by_cases h0:c.1=0
 ·exact .inl h0
 by_cases h1:c.1=1
 ·exact .inr (.inl h1)
 by_cases h2:c.1=2
 ·exact .inr (.inr h2)
 ·have e0:(c.1==0)=false:=by simpa using h0
  have e1:(c.1==1)=false:=by simpa using h1
  have e2:(c.1==2)=false:=by simpa using h2
  rw[e0,e1,e2] at h
  simp at h
theorem zoz {s:List Int} {c:T2} (h4:s.length=4) (hg:gcmd c=true):zav s c=some ((zmh s c,()),(zji s c,())):=by
 unfold zav zeo zmh zji
 rcases zr7 hg with h | h | h
 ·simp[h]
 ·obtain⟨⟨x0,x3⟩,y0,y3⟩:=zlv hg h
  have hx:c.2.2.1<(s.length:Int):=by rw[h4]; omega
  have hy:c.2.2.2.1<(s.length:Int):=by rw[h4]; omega
  have hk:(c.1==2)=false:=by rw[h]; rfl
  have hk0:(c.1==0)=false:=by rw[h]; rfl
  have hk1:(c.1==1)=true:=by rw[h]; rfl
  simp only[hk,hk0,hk1,Bool.false_eq_true,if_false,if_true,x0,y0,hx,hy,List.length_set,decide_true]
  by_cases hlt:rd s c.2.2.1 0<c.2.2.2.2.1
  ·have hge:¬rd s c.2.2.1 0≥c.2.2.2.2.1:=by omega
   simp only[hlt,hge,decide_true,decide_false,if_true,upd,Bool.false_and,Bool.false_eq_true,if_false]
  ·have hge:rd s c.2.2.1 0≥c.2.2.2.2.1:=by omega
   simp only[hlt,hge,decide_true,decide_false,if_true,upd,Bool.true_and,Bool.false_eq_true,if_false]
 ·obtain⟨x0,x3⟩:=zu7 hg (.inl h)
  have hx:c.2.2.1<(s.length:Int):=by rw[h4]; omega
  have hk:(c.1==2)=true:=by rw[h]; rfl
  have hk1:(c.1==1)=false:=by rw[h]; rfl
  simp only[hk,hk1,if_true,x0,hx,decide_true,Bool.false_eq_true,if_false]
theorem zo5 {s:List Int} {c:T2} (h4:s.length=4) (hg:gcmd c=true):z6o s c=some ((zji s c,zmh s c,()),()):=by
 unfold z6o z9q zmh zji
 rw[zwy (by omega),Option.bind_some]
 dsimp only
 rcases zr7 hg with h | h | h
 ·simp[h]
 ·obtain⟨⟨x0,x3⟩,y0,y3⟩:=zlv hg h
  have hx:c.2.2.1<(s.length:Int):=by rw[h4]; omega
  have hy:c.2.2.2.1<(s.length:Int):=by rw[h4]; omega
  have hk:(c.1==2)=false:=by rw[h]; rfl
  have hk1:(c.1==1)=true:=by rw[h]; rfl
  simp only[hk,hk1,Bool.false_eq_true,if_false,if_true,x0,y0,hx,hy,List.length_set,decide_true]
  by_cases hlt:rd s c.2.2.1 0<c.2.2.2.2.1
  ·have hge:¬rd s c.2.2.1 0≥c.2.2.2.2.1:=by omega
   simp only[hlt,hge,decide_true,decide_false,if_true,upd,Bool.false_and,Bool.false_eq_true,if_false]
  ·have hge:rd s c.2.2.1 0≥c.2.2.2.2.1:=by omega
   simp only[hlt,hge,decide_true,decide_false,if_true,upd,Bool.true_and,Bool.false_eq_true,if_false]
 ·obtain⟨x0,x3⟩:=zu7 hg (.inl h)
  have hx:c.2.2.1<(s.length:Int):=by rw[h4]; omega
  have hk:(c.1==2)=true:=by rw[h]; rfl
  have hk1:(c.1==1)=false:=by rw[h]; rfl
  simp only[hk,hk1,if_true,x0,hx,decide_true,Bool.false_eq_true,if_false]
theorem zkb:z7s=some (([100,100,100,100],()),()):=by
 unfold z7s
 refine z0q 5 fun N hN=>?_
 obtain⟨M,rfl⟩:=Nat.exists_eq_add_of_le hN
 unfold zb9
 rw[Nat.add_comm]
 rfl
theorem zq0 {l:List T2} (hl:l.length≤60) (hg:∀ c∈l,gcmd c=true):z7r l=some (((zmo l [100,100,100,100]).1,(zmo l [100,100,100,100]).2,()),()):=by
 unfold z7r
 refine z0q (l.length+1) fun N hN=>?_
 unfold zb8
 rw[zkb,Option.bind_some]
 dsimp only
 refine z06 l (by rw[z03]; omega) (fun i (s:List Int×List T3)=>((s.1,l,(l.length:Int),(i:Int),()),([],[],s.2,()))) (fun i u s=>(((zmo u s.1).1,s.2++(zmo u s.1).2,()),())) (fun i u s=>s.1.length=4∧s.2.length≤i)
  ([100,100,100,100],[]) rfl (by simp) ⟨rfl,by simp⟩ hN (fun rec s h=>?_) (fun rec i c u s hat h hrec=>?_)
 ·dsimp only
  simp[zmo]
 ·have hlt:=hat.ltn
  have hap:((s.2.length+([zmh s.1 c]:List T3).length)*16≤140737488355328)=True:=by simp; omega
  dsimp only
  simp only[hat.lt,hat.nn,hat.wrap,hat.rd,decide_true,if_true]
  rw[zo5 h.1 (hg c hat.mem),Option.bind_some]
  simp only[hap,decide_true,if_true]
  refine (hrec (zji s.1 c,s.2++[zmh s.1 c]) ⟨by rw[zl4]; exact h.1,by simp; omega⟩).trans ?_
  simp[zmo]
theorem zk4 (l:List Int) (h:l.length≤maxLen):WL.wl l:=⟨h,fun _ _=>trivial⟩
abbrev tb (R:List (List T7)):T8:=((R.length:Int),R,())
def z8u (n:Int):T7:=(0,0,0,(0,0,0,0,0,()),ze0 n,())
def z1b (R:List (List T7)) (j c:Nat):T7:=match (R.getD j [])[c]? with
 | some r=>r
 | none=>z8u R.length
theorem zmv {R:List (List T7)} (hR:GoodR R) {j c:Nat} (hj:j<R.length) (hc:c≤6):z5t (tb R) (j:Int) ((c+1:Nat):Int)=some ((z1b R j c,()),())∧z13 (tb R) (j:Int) ((c+1:Nat):Int)=some ((z1b R j c,()),()):=by
 obtain⟨x,hx⟩:∃ x,R[j]? = some x:=⟨_,List.getElem?_eq_getElem hj⟩
 have hmem:x∈R:=List.mem_of_getElem? hx
 have hrd:rd R (j:Int) []=x:=by rw[z6v]; simp[List.getD,hx]
 have h0:(0:Int)≤(j:Int):=by omega
 have hlt:((j:Int)<(R.length:Int)):=by omega
 have h6:=hR.six x hmem
 have hw:IntKind.i64.wrap (((c+1:Nat):Int) - 1)=(c:Int):=by rw[z0b (by omega) (by omega)]; omega
 have hgD:R.getD j []=x:=by simp[List.getD,hx]
 unfold z5t zgf z13 z8o tb
 simp only[h0,hlt,decide_true,if_true,hrd,hw]
 unfold z1b
 rw[hgD]
 by_cases hcx:c<x.length
 ·have hg:x[c]? = some x[c]:=List.getElem?_eq_getElem hcx
  have hrm:x[c]∈x:=List.getElem_mem hcx
  have h1:¬(((c+1:Nat):Int) > (x.length:Int)):=by omega
  have h1':(((c+1:Nat):Int)≤(x.length:Int)):=by omega
  have h2:(c:Int)<(x.length:Int):=by omega
  have hr2:rd x (c:Int) Z7=x[c]:=by rw[z6v]; simp[List.getD,hg]
  simp only[h1,h1',h2,decide_true,decide_false,if_true,if_false,Bool.false_eq_true,hr2,show (0:Int)≤(c:Int) from by omega,hg]
  unfold z35 z64 z5i z5f z2h z4r z47 z40
  rw[zwy (by rw[hR.len x hmem _ hrm]; exact hR.five),zuf (by rw[hR.len x hmem _ hrm]; exact hR.five)]
  exact⟨rfl,rfl⟩
 ·have hg:x[c]? = none:=List.getElem?_eq_none (by omega)
  have h1:(((c+1:Nat):Int) > (x.length:Int)):=by omega
  have h1':¬(((c+1:Nat):Int)≤(x.length:Int)):=by omega
  simp only[h1,h1',decide_true,decide_false,if_true,if_false,Bool.false_eq_true,hg]
  rw[zaz hR.grp,z8v hR.grp]
  exact⟨rfl,rfl⟩
theorem z74 {R:List (List T7)} (hR:GoodR R) {j c:Nat} (hj:j<R.length):(z60 (z1b R j c)).length=R.length∧∀ b∈z60 (z1b R j c),0≤b∧b≤6:=by
 have hx:R[j]? = some R[j]:=List.getElem?_eq_getElem hj
 have hmem:R[j]∈R:=List.getElem_mem hj
 have hgD:R.getD j []=R[j]:=by simp[List.getD,hx]
 unfold z1b
 rw[hgD]
 cases hg:R[j][c]? with
 | some r=>exact⟨hR.len _ hmem r (List.mem_of_getElem? hg),hR.val _ hmem r (List.mem_of_getElem? hg)⟩
 | none=>
  refine⟨by simp[z8u,ze0,z60],fun b hb=>?_⟩
  simp only[z8u,ze0,z60,List.mem_replicate] at hb
  omega
def zc9:Nat→List Int→List (List Int)
 | _,[]=>[]
 | j,d::u=>(List.range d.toNat).map (pl j)++zc9 (j+1) u
theorem zr2:∀ {u:List Int} {j:Nat} {e:List Int},(∀ b∈u,0≤b∧b≤6)→e∈zc9 j u→∃ k c,e=pl k c∧j≤k∧k<j+u.length∧c<6
 | [],j,e,_,he=>by simp[zc9] at he
 | d::u,j,e,hv,he=>by
  simp only[zc9,List.mem_append,List.mem_map,List.mem_range] at he
  rcases he with ⟨c,hc,rfl⟩ | he
  ·have:=hv d (by simp)
   exact⟨j,c,rfl,Nat.le_refl _,by simp,by omega⟩
  ·obtain⟨k,c,h1,h2,h3,h4⟩:=zr2 (fun b hb=>hv b (by simp[hb])) he
   exact⟨k,c,h1,by omega,by simp only[List.length_cons]; omega,h4⟩
theorem zr3:∀ {u:List Int} {j:Nat},(∀ b∈u,0≤b∧b≤6)→(zc9 j u).length≤6*u.length
 | [],j,_=>by simp[zc9]
 | d::u,j,hv=>by
  have h1:=zr3 (j:=j+1) (fun b hb=>hv b (List.mem_cons_of_mem d hb))
  have h2:=hv d (by simp)
  simp only[zc9,List.length_append,List.length_map,List.length_range,List.length_cons]
  omega
theorem zqz (a:T6) (hl:a.2.1.length≤5) (hv:∀ b∈a.2.1,0≤b∧b≤6):zdq a=some ((zc9 0 a.2.1,()),()):=by
 unfold zdq
 refine z0q 8 fun N hN=>?_
 unfold zgh
 refine z06 a.2.1 (by rw[z03]; omega) (fun j (s:List (List Int))=>((a.2.1,(a.2.1.length:Int),(j:Int),()),((a.1,a.2.1,()),([]:List (List Int)),s,())))
  (fun j u s=>((s++zc9 j u,()),())) (fun j u s=>s.length≤6*j) [] rfl (by simp) (by simp) (by omega) (fun rec s h=>?_) (fun rec j d u s hat h hrec=>?_)
 ·dsimp only
  simp[zc9]
 ·have hd:=hv d hat.mem
  have hjlt:=hat.ltn
  dsimp only
  simp only[hat.lt,hat.nn,hat.rd,decide_true,if_true]
  refine z06 (List.range d.toNat) (by rw[z03,List.length_range]; omega) (fun i (s:List (List Int))=>(((j:Int),d,((i+1:Nat):Int),a.2.1,(a.2.1.length:Int),(j:Int),()),((a.1,a.2.1,()),([]:List (List Int)),s,())))
   (fun i v s=>((s++(v.map (pl j)++zc9 (j+1) u),()),())) (fun i v s=>s.length≤6*j+i) s rfl rfl (by simpa using h) (by rw[List.length_range]; omega) (fun rec2 s h=>?_) (fun rec2 i c v s hat2 h hrec2=>?_)
  ·have h7:¬(((List.range d.toNat).length+1:Nat):Int)≤d:=by rw[List.length_range]; omega
   dsimp only
   simp only[h7,decide_false,Bool.false_eq_true,if_false,hat.wrap,List.map_nil,List.nil_append]
   exact hrec s (by rw[List.length_range] at h; omega)
  ·obtain⟨rfl,hc⟩:=ztr hat2
   have h7:(((c+1:Nat):Int)≤d):=by omega
   have hw:IntKind.i64.wrap (((c+1:Nat):Int)+1)=((c+1+1:Nat):Int):=by rw[z0b (by omega) (by omega)]; omega
   have hb:((s.length+([[(j:Int),((c+1:Nat):Int)]]:List (List Int)).length)*24≤140737488355328):=by simp only[List.length_cons,List.length_nil]; omega
   dsimp only
   simp only[h7,hb,decide_true,if_true,hw]
   refine (hrec2 _ (by simp; omega)).trans ?_
   simp[pl]
def rowOf (R:List (List T7)) (x:List Int):T7:=z1b R (x.getD 0 0).toNat ((x.getD 1 0).toNat - 1)
theorem z2s (R:List (List T7)) (j c:Nat):rowOf R (pl j c)=z1b R j c:=by simp[rowOf,pl]
def sucs (R:List (List T7)) (x:List Int):List (List Int):=zc9 0 (z60 (rowOf R x))
def comd (R:List (List T7)) (x:List Int):Bool:=(rowOf R x).2.2.1==(3:Int)
def Ins (n:Nat) (x:List Int):Prop:=∃ j c,x=pl j c∧j<n∧c<6
theorem zjo {R:List (List T7)} (hR:GoodR R) {x:List Int} (hx:Ins R.length x):∀ y∈sucs R x,Ins R.length y:=by
 obtain⟨j,c,rfl,hj,hc⟩:=hx
 intro y hy
 unfold sucs at hy
 rw[z2s] at hy
 obtain⟨h1,h2⟩:=z74 hR (c:=c) hj
 obtain⟨k,i,h3,_,h4,h5⟩:=zr2 h2 hy
 exact⟨k,i,h3,by omega,h5⟩
theorem zny {R:List (List T7)} (hR:GoodR R) {x:List Int} (hx:Ins R.length x):(sucs R x).length≤30:=by
 obtain⟨j,c,rfl,hj,hc⟩:=hx
 unfold sucs
 rw[z2s]
 obtain⟨h1,h2⟩:=z74 hR (c:=c) hj
 have:=zr3 (j:=0) h2
 have:=hR.five
 omega
theorem zfx {R:List (List T7)} (hR:GoodR R) {j c:Nat} (hj:j<R.length) (hc:c<6):z6k (tb R) (j:Int) ((c+1:Nat):Int)=some (((sucs R (pl j c)).filter fun y=>!same y (pl j c),()),()):=by
 unfold z6k
 refine z0q 8 fun N hN=>?_
 unfold zcr
 rw[(zmv hR hj (by omega)).1,Option.bind_some]
 unfold sucs
 rw[z2s]
 obtain⟨h1,h2⟩:=z74 hR (c:=c) hj
 have h5:=hR.five
 generalize hr:z1b R j c=r at h1 h2
 obtain⟨r1,r2,r3,r4,⟨sq,D,⟨⟩⟩,⟨⟩⟩:=r
 dsimp only[z60] at h1 h2 ⊢
 refine z06 D (by rw[z03]; omega) (fun k (s:List (List Int))=>(((j:Int),((c+1:Nat):Int),(D.length:Int),(k:Int),()),(tb R,([]:List (List Int)),D,(sq,()),s,())))
  (fun k u s=>((s++(zc9 k u).filter (fun y=>!same y (pl j c)),()),())) (fun k u s=>s.length≤6*k) [] rfl (by simp) (by simp) (by omega) (fun rec s h=>?_) (fun rec k d u s hat h hrec=>?_)
 ·dsimp only
  simp[zc9]
 ·have hd:=h2 d hat.mem
  have hklt:=hat.ltn
  dsimp only
  simp only[hat.lt,hat.nn,hat.rd,decide_true,if_true]
  refine z06 (List.range d.toNat) (by rw[z03,List.length_range]; omega) (fun i (s:List (List Int))=>(((j:Int),((c+1:Nat):Int),(k:Int),d,((i+1:Nat):Int),(D.length:Int),(k:Int),()),(tb R,([]:List (List Int)),D,(sq,()),s,())))
   (fun i v s=>((s++((v.map (pl k)++zc9 (k+1) u).filter fun y=>!same y (pl j c)),()),())) (fun i v s=>s.length≤6*k+i) s rfl rfl (by simpa using h) (by rw[List.length_range]; omega) (fun rec2 s h=>?_) (fun rec2 i e v s hat2 h hrec2=>?_)
  ·have h7:¬(((List.range d.toNat).length+1:Nat):Int)≤d:=by rw[List.length_range]; omega
   dsimp only
   simp only[h7,decide_false,Bool.false_eq_true,if_false,hat.wrap,List.map_nil,List.nil_append]
   exact hrec s (by rw[List.length_range] at h; omega)
  ·obtain⟨rfl,hc'⟩:=ztr hat2
   have h7:(((e+1:Nat):Int)≤d):=by omega
   have hw:IntKind.i64.wrap (((e+1:Nat):Int)+1)=((e+1+1:Nat):Int):=by rw[z0b (by omega) (by omega)]; omega
   have hb:((s.length+([[(k:Int),((e+1:Nat):Int)]]:List (List Int)).length)*24≤140737488355328):=by simp only[List.length_cons,List.length_nil]; omega
   dsimp only
   simp only[h7,hb,decide_true,if_true,hw,List.map_cons,List.cons_append,List.filter_cons]
   have hsm:same (pl k e) (pl j c)=(decide (k=j)&&decide (e=c)):=by
    rw[Bool.eq_iff_iff,z1c]
    simp only[pl,List.cons.injEq,and_true,Bool.and_eq_true,decide_eq_true_eq]
    omega
   by_cases hkj:k=j
   ·subst hkj
    have hne:((k:Int) != (k:Int))=false:=by simp
    simp only[hne,Bool.false_eq_true,if_false]
    by_cases hec:e=c
    ·subst hec
     have hne2:((((e+1:Nat):Int)) != ((e+1:Nat):Int))=false:=by simp
     simp only[hne2,Bool.false_eq_true,if_false,hsm,decide_true,Bool.and_self,Bool.not_true]
     exact hrec2 s (by omega)
    ·have hne2:((((e+1:Nat):Int)) != ((c+1:Nat):Int))=true:=by simp; omega
     simp only[hne2,if_true,hsm,hec,decide_true,decide_false,Bool.and_false,Bool.not_false]
     refine (hrec2 _ (by simp; omega)).trans ?_
     simp[pl]
   ·have hne:((k:Int) != (j:Int))=true:=by simp; omega
    simp only[hne,if_true,hsm,hkj,decide_false,Bool.false_and,Bool.not_false]
    refine (hrec2 _ (by simp; omega)).trans ?_
    simp[pl]
noncomputable def hasB (l:List (List Int)) (y:List Int):Bool:=l.any fun x=>same y x
theorem z4s {l:List (List Int)} {y:List Int}:hasB l y=true↔y∈l:=by
 simp only[hasB,List.any_eq_true,z1c]
 exact⟨fun ⟨x,hx,h⟩=>h▸hx,fun h=>⟨y,h,rfl⟩⟩
abbrev BS:=List (List Int)×List (List Int)
noncomputable def zfs (cm:List Int→Bool) (s:BS) (y:List Int):BS:=if hasB s.1 y||hasB s.2 y then s else if cm y then (s.1++[y],s.2) else (s.1,s.2++[y])
noncomputable def zp3 (cm:List Int→Bool) (s:BS) (l:List (List Int)):BS:=l.foldl (zfs cm) s
theorem z5w (cm:List Int→Bool) (s:BS) (y:List Int) (l:List (List Int)):zp3 cm s (y::l)=zp3 cm (zfs cm s y) l:=rfl
noncomputable def bfs (sc:List Int→List (List Int)) (cm:List Int→Bool):Nat→Nat→BS→BS
 | 0,_,s=>s
 | k+1,i,s=>match s.1[i]? with
  | some x=>bfs sc cm k (i+1) (zp3 cm s (sc x))
  | none=>s
structure Inv (n:Nat) (s:BS):Prop where
 nd:(s.1++s.2).Nodup
 ins:∀ x∈s.1++s.2,Ins n x
theorem za0 {α:Type} [DecidableEq α]:∀ {l m:List α},l.Nodup→(∀ x∈l,x∈m)→l.length≤m.length
 | [],_,_,_=>by simp
 | x::l,m,hn,hs=>by
  obtain⟨h1,h2⟩:=List.nodup_cons.1 hn
  have hx:=hs x (by simp)
  have:=za0 (m:=m.erase x) h2 fun y hy=>(List.mem_erase_of_ne (fun e=>h1 (by rw[←e]; exact hy))).2 (hs y (by simp[hy]))
  rw[List.length_erase_of_mem hx] at this
  have hpos:=List.length_pos_of_mem hx
  simp only[List.length_cons]
  omega
theorem Inv.len {n:Nat} {s:BS} (h:Inv n s):s.1.length+s.2.length≤6*n:=by
 have:=za0 (m:=(List.range (6*n)).map fun q=>pl (q / 6) (q % 6)) h.nd fun x hx=>by
  obtain⟨j,c,rfl,hj,hc⟩:=h.ins x hx
  refine List.mem_map.2 ⟨6*j+c,List.mem_range.2 (by omega),?_⟩
  rw[show (6*j+c) / 6=j by omega,show (6*j+c) % 6=c by omega]
 simpa using this
theorem Inv.step {n:Nat} {s:BS} (h:Inv n s) {cm:List Int→Bool} {y:List Int} (hy:Ins n y):Inv n (zfs cm s y):=by
 unfold zfs
 split
 ·exact h
 ·rename_i hh
  simp only[Bool.or_eq_true,z4s,not_or] at hh
  have hn:y∉s.1++s.2:=by simp[hh.1,hh.2]
  split
  ·refine⟨?_,fun x hx=>?_⟩
   ·have:(s.1++[y]++s.2).Perm (y::(s.1++s.2)):=by
     rw[List.append_assoc]
     exact List.perm_middle
    exact this.nodup_iff.2 (List.nodup_cons.2 ⟨hn,h.nd⟩)
   ·simp only[List.mem_append,List.mem_singleton] at hx
    rcases hx with (hx | rfl) | hx
    ·exact h.ins x (by simp[hx])
    ·exact hy
    ·exact h.ins x (by simp[hx])
  ·refine⟨?_,fun x hx=>?_⟩
   ·have:(s.1++(s.2++[y])).Perm (y::(s.1++s.2)):=by
     rw[←List.append_assoc]
     exact List.perm_append_singleton _ _
    exact this.nodup_iff.2 (List.nodup_cons.2 ⟨hn,h.nd⟩)
   ·simp only[List.mem_append,List.mem_singleton] at hx
    rcases hx with hx | hx | rfl
    ·exact h.ins x (by simp[hx])
    ·exact h.ins x (by simp[hx])
    ·exact hy
noncomputable def walk (R:List (List T7)) (i:Nat) (s:BS):BS:=bfs (sucs R) (comd R) (40 - i) i s
theorem zpm {R:List (List T7)} {i:Nat} {s:BS} (h:s.1.length≤i):walk R i s=s:=by
 unfold walk
 cases 40 - i with
 | zero=>rfl
 | succ k=>unfold bfs; rw[List.getElem?_eq_none h]
theorem zpl {R:List (List T7)} {i:Nat} {s:BS} {x:List Int} (hi:i<40) (h:s.1[i]? = some x):walk R i s=walk R (i+1) (zp3 (comd R) s (sucs R x)):=by
 unfold walk
 rw[show 40 - i=(40 - (i+1))+1 by omega]
 conv=>lhs; unfold bfs
 rw[h]
def gtI (y x:List Int):Bool:=decide (y.getD 0 0 > x.getD 0 0)||(y.getD 0 0==x.getD 0 0&&decide (y.getD 1 0 > x.getD 1 0))
def insR (x:List Int):List (List Int)→List (List Int)
 | []=>[x]
 | y::r=>if gtI y x then y::insR x r else x::y::r
def insL (l:List (List Int)) (x:List Int):List (List Int):=(insR x l.reverse).reverse
theorem zlh (x:List Int):∀ r,(insR x r).Perm (x::r)
 | []=>.refl _
 | y::r=>by
  unfold insR
  split
  ·exact ((zlh x r).cons y).trans (.swap x y r)
  ·exact .refl _
theorem zli (l:List (List Int)) (x:List Int):(insL l x).Perm (x::l):=by
 unfold insL
 refine (List.reverse_perm _).trans ((zlh x _).trans ?_)
 exact (List.reverse_perm l).cons x
def z89 (l:List (List Int)):List (List Int):=l.foldl insL []
theorem zlk (l:List (List Int)) (x:List Int):z89 (l++[x])=insL (z89 l) x:=by simp[z89]
theorem za5:∀ l:List (List Int),(z89 l).Perm l:=by
 intro l
 have key:∀ (m l:List (List Int)),(m.foldl insL l).Perm (l++m):=by
  intro m
  induction m with
  | nil=>intro l; simp
  | cons x m ih=>
   intro l
   refine (ih (insL l x)).trans ?_
   refine ((zli l x).append_right m).trans ?_
   exact List.perm_middle.symm
 have:=key l []
 rwa [List.nil_append] at this
theorem zic (j c:Nat):(pl j c).length=2∧rd (pl j c) 0 0=(j:Int)∧rd (pl j c) 1 0=((c+1:Nat):Int):=⟨rfl,rfl,rfl⟩
theorem Ins.rd {n:Nat} {x:List Int} (h:Ins n x):x.length=2∧rd x 0 0=x.getD 0 0∧rd x 1 0=x.getD 1 0:=by
 obtain⟨j,c,rfl,_,_⟩:=h
 exact⟨rfl,rfl,rfl⟩
theorem zdr {n:Nat} {l:List (List Int)} {x:List Int} (hl:∀ y∈l,Ins n y) (hx:Ins n x) (hlen:l.length≤100):z4j l x=some ((insL l x,()),()):=by
 unfold z4j
 refine z0q 102 fun N hN=>?_
 unfold z9o
 obtain⟨x2,xr0,xr1⟩:=hx.rd
 have hxl:(0:Int)<(x.length:Int)∧(1:Int)<(x.length:Int):=by omega
 refine z1o l.length (fun i (s:Unit)=>((l,x,((l.length - i:Nat):Int),()),(([]:List (List Int)),()))) (fun i s=>(((insR x (l.take (l.length - i)).reverse).reverse++l.drop (l.length - i),()),())) (fun i s=>True)
  () rfl (by simp[insL]) trivial (by omega) (fun rec i s hi h hrec=>?_)
 dsimp only
 generalize hk:l.length - i=k at hrec ⊢
 have hkl:k≤l.length:=by omega
 have fin:insR x (l.take k).reverse=x::(l.take k).reverse →
   (if (decide (0≤(l.length:Int))) then (if (decide ((l.length:Int)≤l.length)) then (if (decide (0≤(k:Int))) then (if (decide ((k:Int)≤(l.length:Int))) then (if (decide ((([]:List (List Int)).length+((l.take (l.length:Int).toNat).drop (k:Int).toNat).length)*24≤140737488355328)) then (if (decide (0≤(k:Int))) then (if (decide ((k:Int)≤l.length)) then (if (decide (0≤(0:Int))) then (if (decide ((0:Int)≤(k:Int))) then (if (decide ((([]:List (List Int)).length+((l.take (k:Int).toNat).drop (0:Int).toNat).length)*24≤140737488355328)) then (if (decide (((([]:List (List Int))++((l.take (k:Int).toNat).drop (0:Int).toNat)).length+([x]:List (List Int)).length)*24≤140737488355328)) then (if (decide ((((([]:List (List Int))++((l.take (k:Int).toNat).drop (0:Int).toNat))++([x]:List (List Int))).length+(([]:List (List Int))++((l.take (l.length:Int).toNat).drop (k:Int).toNat)).length)*24≤140737488355328)) then (some (((((([]:List (List Int))++((l.take (k:Int).toNat).drop (0:Int).toNat))++([x]:List (List Int)))++(([]:List (List Int))++((l.take (l.length:Int).toNat).drop (k:Int).toNat))),()),())) else none) else none) else none) else none) else none) else none) else none) else none) else none) else none) else none) else none:Option ((List (List Int)×Unit)×Unit))
    = some (((insR x (l.take k).reverse).reverse++l.drop k,()),()):=by
  intro he
  rw[he]
  have c1:(0:Int)≤(l.length:Int):=by omega
  have c2:(0:Int)≤(k:Int):=by omega
  have c3:(k:Int)≤(l.length:Int):=by omega
  simp only[c1,c2,c3,Int.le_refl,decide_true,if_true,Int.toNat_natCast,Int.toNat_zero,List.take_length,List.drop_zero,List.nil_append,List.length_nil,Nat.zero_add,List.length_append,List.length_take,List.length_drop,List.length_cons]
  rw[decide_eq_true (by omega),decide_eq_true (by omega),decide_eq_true (by omega),decide_eq_true (by omega)]
  simp
 cases k with
 | zero=>
  have c0:¬(((0:Nat):Int) > 0):=by omega
  simp only[c0,decide_false,Bool.false_eq_true,if_false]
  exact fin (by simp[insR])
 | succ k=>
  have hil:i<l.length:=by omega
  have c0:(((k+1:Nat):Int) > 0):=by omega
  have hw:IntKind.i64.wrap (((k+1:Nat):Int) - 1)=(k:Int):=by rw[z0b (by omega) (by omega)]; omega
  have c1:(0:Int)≤(k:Int):=by omega
  have c2:(k:Int)<(l.length:Int):=by omega
  have hkl':k<l.length:=by omega
  have hg:l[k]? = some l[k]:=List.getElem?_eq_getElem hkl'
  have hr:rd l (k:Int) ([]:List Int)=l[k]:=by rw[z6v]; simp[List.getD,hg]
  obtain⟨y2,yr0,yr1⟩:=(hl _ (List.getElem_mem hkl')).rd
  have hyl:(0:Int)<(l[k].length:Int)∧(1:Int)<(l[k].length:Int):=by omega
  have htk:(l.take (k+1)).reverse=l[k]::(l.take k).reverse:=by
   rw[List.take_add_one,hg]
   simp
  have hgo:gtI l[k] x=true→(insR x (l.take (k+1)).reverse).reverse++l.drop (k+1)=(insR x (l.take k).reverse).reverse++l.drop k:=by
   intro hgt
   rw[htk]
   conv=>lhs; unfold insR
   rw[if_pos hgt,List.reverse_cons,List.append_assoc,List.drop_eq_getElem_cons hkl']
   rfl
  have hst:gtI l[k] x=false→insR x (l.take (k+1)).reverse=x::(l.take (k+1)).reverse:=by
   intro hgt
   rw[htk]
   conv=>lhs; unfold insR
   rw[if_neg (by simp[hgt])]
  have hrec':=hrec hil () trivial
  rw[show l.length - (i+1)=k by omega] at hrec'
  have fin':=fun h=>fin (hst h)
  simp only[c0,c1,c2,hw,hr,hyl,hxl,yr0,yr1,xr0,xr1,decide_true,if_true,Int.le_refl,show (0:Int)≤1 from by omega]
  have hgt0:gtI l[k] x=(decide (l[k].getD 0 0 > x.getD 0 0)||(l[k].getD 0 0==x.getD 0 0&&decide (l[k].getD 1 0 > x.getD 1 0))):=rfl
  by_cases q1:l[k].getD 0 0 > x.getD 0 0
  ·simp only[q1,decide_true,if_true]
   rw[hgo (by rw[hgt0,decide_eq_true q1,Bool.true_or])]
   exact hrec'
  ·simp only[q1,decide_false,Bool.false_eq_true,if_false]
   by_cases q2:(l[k].getD 0 0==x.getD 0 0)=true
   ·simp only[q2,if_true]
    by_cases q3:l[k].getD 1 0 > x.getD 1 0
    ·simp only[q3,decide_true,if_true]
     rw[hgo (by rw[hgt0,q2,decide_eq_true q3,Bool.true_and,Bool.or_true])]
     exact hrec'
    ·have hf:=fin' (by rw[hgt0,decide_eq_false q1,decide_eq_false q3,Bool.and_false,Bool.or_false])
     simp only[c0,c1,c2,hw,hr,hyl,hxl,yr0,yr1,xr0,xr1,decide_true,if_true,Int.le_refl,show (0:Int)≤1 from by omega] at hf
     simp only[q3,decide_false,Bool.false_eq_true,if_false]
     exact hf
   ·have q2':(l[k].getD 0 0==x.getD 0 0)=false:=by simpa using q2
    have hf:=fin' (by rw[hgt0,decide_eq_false q1,q2',Bool.false_and,Bool.or_false])
    simp only[c0,c1,c2,hw,hr,hyl,hxl,yr0,yr1,xr0,xr1,decide_true,if_true,Int.le_refl,show (0:Int)≤1 from by omega] at hf
    simp only[q2',Bool.false_eq_true,if_false]
    exact hf
theorem Ins.len {n:Nat} {x:List Int} (h:Ins n x):x.length=2:=by obtain⟨j,c,rfl,_,_⟩:=h; rfl
theorem zvv {n:Nat} {l:List (List Int)} (h:∀ y∈l,Ins n y) (hl:l.length≤100):WL.wl l:=
 ⟨by rw[z03]; omega,fun y hy=>⟨by rw[(h y hy).len,z03]; omega,fun _ _=>trivial⟩⟩
theorem zua {n:Nat} {l:List (List Int)} {y:List Int} (h:∀ z∈l,Ins n z) (hl:l.length≤100) (hy:Ins n y):∃ k,z1u l y=some ((k,()),())∧decide (k≥(0:Int))=hasB l y:=by
 refine⟨_,zt9 (zvv h hl) (by rw[hy.len,z03]; omega),?_⟩
 rw[z96 _ _ _ (by omega)]
 rfl
theorem zmq {n:Nat} {l:List (List Int)} {y:List Int} (h:∀ z∈l,Ins n z) (hl:l.length≤100) (hy:Ins n y):z26 l y=some ((hasB l y,()),()):=by
 unfold z26 z3z
 rw[z8d (fun x=>same y x) (by rw[z03]; omega) fun x hx=>by
  dsimp only
  rw[z9e _ _ (by rw[hy.len,z03]; omega) (by rw[(h x hx).len,z03]; omega)]
  rfl]
 rfl
theorem zxr {l m:List (List Int)} (h:l.Perm m) (y:List Int):hasB l y=hasB m y:=by
 rw[Bool.eq_iff_iff,z4s,z4s,h.mem_iff]
theorem zjx (l m:List (List Int)) (y:List Int):hasB (l++m) y=(hasB l y||hasB m y):=by simp[hasB]
theorem zjw (x y:List Int):hasB [x] y=same y x:=by simp[hasB]
theorem zun (cm:List Int→Bool) (s:BS) (y x:List Int) (h:x∈s.1):x∈(zfs cm s y).1:=by
 unfold zfs
 split
 ·exact h
 ·split
  ·simp[h]
  ·exact h
theorem zwb (cm:List Int→Bool) (s:BS) (y:List Int):s.1.length≤(zfs cm s y).1.length:=by
 unfold zfs
 split
 ·exact Nat.le_refl _
 ·split<;>simp
theorem zf9 (cm:List Int→Bool) (x:List Int):∀ (l:List (List Int)) (s:BS),x∈s.1→zp3 cm s (l.filter fun y=>!same y x)=zp3 cm s l
 | [],s,_=>rfl
 | y::l,s,h=>by
  by_cases he:same y x=true
  ·have he':=z1c.1 he
   subst he'
   rw[List.filter_cons_of_neg (by simp[he]),zf9 cm y l s h,z5w]
   congr 1
   unfold zfs
   rw[if_pos (by rw[z4s.2 h,Bool.true_or])]
  ·rw[List.filter_cons_of_pos (by simp[he]),z5w,z5w,zf9 cm x l _ (zun cm s y x h)]
theorem Inv.lens {n:Nat} {s:BS} (h:Inv n s) (hn:n≤5):s.1.length+s.2.length≤30:=by have:=h.len; omega
theorem Inv.left {n:Nat} {s:BS} (h:Inv n s):∀ x∈s.1,Ins n x:=fun x hx=>h.ins x (by simp[hx])
theorem Inv.right {n:Nat} {s:BS} (h:Inv n s):∀ x∈s.2,Ins n x:=fun x hx=>h.ins x (by simp[hx])
theorem zin {n:Nat} {l:List (List Int)} (h:∀ x∈l,Ins n x):∀ x∈z89 l,Ins n x:=fun x hx=>h x ((za5 l).mem_iff.1 hx)
theorem zc6 (l:List (List Int)):(z89 l).length=l.length:=(za5 l).length_eq
theorem zh0 {n:Nat} {x:List Int} (h:Ins n x):Inv n ([x],[]):=⟨by simp,fun y hy=>by simp at hy; rw[hy]; exact h⟩
theorem zh3 {R:List (List T7)} (hR:GoodR R) {j c:Nat} (hj:j<R.length) (hc:c<6):z4u (tb R) (j:Int) ((c+1:Nat):Int)=some ((z89 (walk R 0 ([pl j c],[])).2,()),()):=by
 unfold z4u
 refine z0q 40 fun N hN=>?_
 unfold z75
 have h5:=hR.five
 refine z1o 30 (fun i (s:BS)=>((z89 s.2,(i:Int),()),(tb R,([]:List (List Int)),s.1,()))) (fun i s=>((z89 (walk R i s).2,()),())) (fun i s=>Inv R.length s)
  ([pl j c],[]) rfl rfl (zh0 ⟨j,c,rfl,hj,hc⟩) (by omega) (fun rec i s hi h hrec=>?_)
 have hlen:=h.lens h5
 dsimp only
 by_cases hil:i<s.1.length
 ·have hg:s.1[i]? = some s.1[i]:=List.getElem?_eq_getElem hil
  have hxi:=h.left _ (List.getElem_mem hil)
  obtain⟨j',c',hx,hj',hc'⟩:=hxi
  have hr:rd s.1 (i:Int) ([]:List Int)=pl j' c':=by rw[z6v]; simp[List.getD,hg,hx]
  obtain⟨l2,r0,r1⟩:=zic j' c'
  have k1:(i:Int)<(s.1.length:Int):=by omega
  have k2:(0:Int)≤(i:Int):=by omega
  have k3:(0:Int)<((pl j' c').length:Int):=by rw[l2]; omega
  have k4:(1:Int)<((pl j' c').length:Int):=by rw[l2]; omega
  simp only[k1,k2,k3,k4,hr,r0,r1,Int.le_refl,decide_true,if_true,show (0:Int)≤1 from by omega]
  rw[zfx hR hj' hc',Option.bind_some]
  dsimp only
  have hxin:pl j' c'∈s.1:=hx▸List.getElem_mem hil
  rw[zpl (by omega) (hg.trans (by rw[hx])),←zf9 (comd R) (pl j' c') (sucs R (pl j' c')) s hxin]
  have hsl:((sucs R (pl j' c')).filter fun y=>!same y (pl j' c')).length≤30:=Nat.le_trans (List.length_filter_le _ _) (zny hR ⟨j',c',rfl,hj',hc'⟩)
  have hsi:∀ y∈(sucs R (pl j' c')).filter fun y=>!same y (pl j' c'),Ins R.length y:=fun y hy=>zjo hR ⟨j',c',rfl,hj',hc'⟩ y (List.mem_filter.1 hy).1
  generalize (sucs R (pl j' c')).filter (fun y=>!same y (pl j' c'))=L at hsl hsi
  have hi30:i<30:=by omega
  refine z06 L (by rw[z03]; omega) (fun k (s:BS)=>((z89 s.2,(i:Int),(L.length:Int),(k:Int),()),(tb R,([]:List (List Int)),s.1,L,())))
   (fun k t s=>((z89 (walk R (i+1) (zp3 (comd R) s t)).2,()),())) (fun k t s=>Inv R.length s) s rfl rfl h (by omega) (fun rec2 s h=>?_) (fun rec2 k y t s hat h hrec2=>?_)
  ·have hw:IntKind.i64.wrap ((i:Int)+1)=((i+1:Nat):Int):=by rw[z0b (by omega) (by omega)]; omega
   dsimp only
   simp only[z00,decide_false,Bool.false_eq_true,if_false,hw]
   exact hrec hi30 s h
  ·have hy:=hsi y hat.mem
   have hlen:=h.lens h5
   obtain⟨f1,e1,g1⟩:=zua h.left (by omega) hy
   obtain⟨f2,e2,g2⟩:=zua (zin h.right) (by rw[zc6]; omega) hy
   rw[zxr (za5 _)] at g2
   dsimp only
   simp only[hat.lt,hat.nn,hat.rd,hat.wrap,decide_true,if_true,e1,e2,Option.bind_some,g1,g2]
   have hs':=h.step (cm:=comd R) hy
   have hrec3:=hrec2 _ hs'
   rw[←z5w] at hrec3
   unfold zfs at hrec3
   cases b1:hasB s.1 y with
   | true=>
    simp only[b1,Bool.true_or,if_true] at hrec3 ⊢
    exact hrec3
   | false=>
   cases b2:hasB s.2 y with
   | true=>
    simp only[b1,b2,Bool.or_true,if_true,Bool.false_eq_true,if_false] at hrec3 ⊢
    exact hrec3
   | false=>
   simp only[b1,b2,Bool.or_false,Bool.false_eq_true,if_false] at hrec3 ⊢
   obtain⟨jy,cy,rfl,hjy,hcy⟩:=hy
   obtain⟨l2,r0,r1⟩:=zic jy cy
   have k3:(0:Int)<((pl jy cy).length:Int):=by rw[l2]; omega
   have k4:(1:Int)<((pl jy cy).length:Int):=by rw[l2]; omega
   simp only[k3,k4,r0,r1,Int.le_refl,decide_true,if_true,show (0:Int)≤1 from by omega]
   rw[(zmv hR hjy (by omega)).1,Option.bind_some]
   have hcm:comd R (pl jy cy)=((z1b R jy cy).2.2.1==(3:Int)):=by unfold comd; rw[z2s]
   dsimp only
   rw[←hcm]
   cases b3:comd R (pl jy cy) with
   | true=>
    have hb:((s.1.length+([pl jy cy]:List (List Int)).length)*24≤140737488355328):=by simp only[List.length_cons,List.length_nil]; omega
    simp only[b3,hb,decide_true,if_true] at hrec3 ⊢
    exact hrec3
   | false=>
    simp only[b3,Bool.false_eq_true,if_false] at hrec3 ⊢
    rw[zdr (n:=R.length) (zin h.right) ⟨jy,cy,rfl,hjy,hcy⟩ (by rw[zc6]; omega),Option.bind_some]
    rw[zlk] at hrec3
    exact hrec3
 ·have k1:¬((i:Int)<(s.1.length:Int)):=by omega
  simp only[k1,decide_false,Bool.false_eq_true,if_false]
  rw[zpm (by omega)]
noncomputable def cmpF:List Int→List Int→Option Int:=fun x y=>(fun (x9:(List Int×List Int×Unit))=>(((z27 x9.1 x9.2.1).bind fun y10=>(some ((y10.1.1,()),())))).bind fun y11=>some y11.1.1) (x,(y,()))
theorem zpb {n:Nat} {x y:List Int} (hx:Ins n x) (hy:Ins n y):cmpF x y=some (cmpL x y):=by
 unfold cmpF
 dsimp only
 rw[zmf _ _ (by rw[hx.len,z03]; omega) (by rw[hy.len,z03]; omega)]
 rfl
theorem zhs {n:Nat} {x y:List Int} (hx:Ins n x) (hy:Ins n y):zfv cmpF x y=decide (x.getD 0 0<y.getD 0 0∨x.getD 0 0=y.getD 0 0∧x.getD 1 0<y.getD 1 0):=by
 unfold zfv
 rw[zpb hx hy]
 obtain⟨j,c,rfl,_,_⟩:=hx
 obtain⟨k,d,rfl,_,_⟩:=hy
 rw[Bool.eq_iff_iff,decide_eq_true_iff,decide_eq_true_iff]
 show cmpL [(j:Int),((c+1:Nat):Int)] [(k:Int),((d+1:Nat):Int)]<0↔(j:Int)<(k:Int)∨(j:Int)=(k:Int)∧((c+1:Nat):Int)<((d+1:Nat):Int)
 simp only[cmpL,cmpI]
 by_cases h1:(j:Int)<(k:Int)
 ·simp[h1]
 ·by_cases h2:(j:Int) > (k:Int)
  ·have:¬((j:Int)=(k:Int)):=by omega
   simp[h1,h2,this]
  ·have h3:(j:Int)=(k:Int):=by omega
   by_cases h4:((c+1:Nat):Int)<((d+1:Nat):Int)
   ·simp only[h3,h4,Int.lt_irrefl,if_false,if_true,gt_iff_lt]; simp
   ·by_cases h5:((c+1:Nat):Int) > ((d+1:Nat):Int)
    ·simp only[h3,h4,h5,Int.lt_irrefl,if_false,if_true,gt_iff_lt]; simp
    ·simp only[h3,h4,h5,Int.lt_irrefl,if_false,gt_iff_lt]; simp
theorem zq1 {n:Nat} {l:List (List Int)} (hl:∀ y∈l,Ins n y) (hlen:l.length≤100):zab cmpF l=some ((zab cmpF l).getD [])∧((zab cmpF l).getD []).length=l.length:=by
 have hok:zn3 cmpF l=true:=by
  unfold zn3
  rw[Bool.and_eq_true,decide_eq_true_eq]
  refine⟨by omega,?_⟩
  simp only[List.all_eq_true,Bool.and_eq_true,Bool.not_eq_true',Bool.or_eq_true,Bool.and_eq_false_iff]
  intro x hx
  refine⟨by rw[zhs (hl x hx) (hl x hx)]; simp,fun y hy=>⟨by rw[zpb (hl x hx) (hl y hy)]; rfl,fun z hz=>?_⟩⟩
  rw[zhs (hl x hx) (hl y hy),zhs (hl y hy) (hl z hz),zhs (hl x hx) (hl z hz)]
  simp only[decide_eq_true_eq,decide_eq_false_iff_not]
  omega
 have h:zab cmpF l=some ((z2w l.length (z4m cmpF l)).filterMap fun i=>l[i]?):=by unfold zab; rw[if_pos hok]
 refine⟨by rw[h]; rfl,?_⟩
 obtain⟨_,_,_,_,h5,h6⟩:=zjq (z:=[]) h
 rw[h]
 show (List.filterMap _ _).length=_
 rw[h5,List.length_map,h6.1]
noncomputable def blk (R:List (List T7)) (x:List Int):List (List Int):=(zab cmpF (walk R 0 ([x],[])).2).getD []
theorem zra {n:Nat} {cm:List Int→Bool}:∀ {l:List (List Int)} {s:BS},Inv n s→(∀ y∈l,Ins n y)→Inv n (zp3 cm s l)
 | [],s,h,_=>h
 | y::l,s,h,hl=>by
  rw[z5w]
  exact zra (h.step (hl y (by simp))) fun z hz=>hl z (by simp[hz])
theorem znt {R:List (List T7)} (hR:GoodR R):∀ (k i:Nat) (s:BS),Inv R.length s→Inv R.length (bfs (sucs R) (comd R) k i s)
 | 0,i,s,h=>h
 | k+1,i,s,h=>by
  unfold bfs
  split
  ·rename_i x hx
   exact znt hR k (i+1) _ (zra h (zjo hR (h.left x (List.mem_of_getElem? hx))))
  ·exact h
theorem y2n {R:List (List T7)} (hR:GoodR R) {x:List Int} (hx:Ins R.length x):(blk R x).length=(walk R 0 ([x],[])).2.length:=
 (zq1 (znt hR 40 0 _ (zh0 hx)).right (by have:=(znt hR 40 0 _ (zh0 hx)).lens hR.five; omega)).2
theorem zjj {R:List (List T7)} (hR:GoodR R) {x:List Int} (hx:Ins R.length x):z2v (tb R) x=some ((blk R x,()),()):=by
 unfold z2v
 refine z0q 40 fun N hN=>?_
 unfold z4b
 have h5:=hR.five
 refine z1o 30 (fun i (s:BS×List (List Int))=>((()),(tb R,([]:List (List Int)),s.2,s.1.2,s.1.1.drop i,()))) (fun i s=>(((zab cmpF (walk R i s.1).2).getD [],()),()))
  (fun i s=>Inv R.length s.1∧(∀ y,hasB s.2 y=(hasB s.1.1 y||hasB s.1.2 y))∧s.2.length=s.1.1.length+s.1.2.length) (([x],[]),[x]) rfl rfl ⟨zh0 hx,fun y=>by simp[hasB],rfl⟩ (by omega) (fun rec i s hi h hrec=>?_)
 obtain⟨⟨s1,s2⟩,m⟩:=s
 obtain⟨hinv,hm,hml⟩:=h
 have hlen:=hinv.lens h5
 dsimp only at hm hml hlen ⊢
 by_cases hil:i<s1.length
 ·have hg:s1[i]? = some s1[i]:=List.getElem?_eq_getElem hil
  obtain⟨j',c',hx',hj',hc'⟩:=hinv.left _ (List.getElem_mem hil)
  have hdl:(s1.drop i).length=s1.length - i:=List.length_drop
  have hr:rd (s1.drop i) (0:Int) ([]:List Int)=pl j' c':=by
   rw[show (0:Int)=((0:Nat):Int) from rfl,z6v]; simp[List.getD,hg,hx']
  obtain⟨l2,r0,r1⟩:=zic j' c'
  have k1:((s1.drop i).length:Int) > (0:Int):=by omega
  have k1':(0:Int)<((s1.drop i).length:Int):=by omega
  have k3:(0:Int)<((pl j' c').length:Int):=by rw[l2]; omega
  have k4:(1:Int)<((pl j' c').length:Int):=by rw[l2]; omega
  simp only[k1,k1',k3,k4,hr,r0,r1,Int.le_refl,decide_true,if_true,show (0:Int)≤1 from by omega]
  rw[(zmv hR hj' (by omega)).2,Option.bind_some]
  obtain⟨q1,q2⟩:=z74 hR (c:=c') hj'
  dsimp only
  rw[zqz _ (by show (z60 (z1b R j' c')).length≤5; omega) q2,Option.bind_some]
  dsimp only
  have hsc:zc9 0 (z1b R j' c').2.2.2.2.1.2.1=sucs R (pl j' c'):=by unfold sucs; rw[z2s]
  rw[hsc,zpl (by omega) (show ((s1,s2):BS).1[i]? = some (pl j' c') from hg.trans (by rw[hx']))]
  have hsl:=zny hR ⟨j',c',rfl,hj',hc'⟩
  have hsi:=zjo hR ⟨j',c',rfl,hj',hc'⟩
  generalize sucs R (pl j' c')=L at hsl hsi
  generalize (z1b R j' c').2.2.2.2.1.2.1=D
  have hi30:i<30:=by omega
  refine z06 L (by rw[z03]; omega) (fun k (s:BS×List (List Int))=>(((L.length:Int),(k:Int),()),(tb R,([]:List (List Int)),s.2,s.1.2,s.1.1.drop i,D,L,())))
   (fun k t s=>(((zab cmpF (walk R (i+1) (zp3 (comd R) s.1 t)).2).getD [],()),()))
   (fun k t s=>Inv R.length s.1∧(∀ y,hasB s.2 y=(hasB s.1.1 y||hasB s.1.2 y))∧s.2.length=s.1.1.length+s.1.2.length∧i<s.1.1.length) ((s1,s2),m) rfl rfl ⟨hinv,hm,hml,hil⟩ (by omega) (fun rec2 s h=>?_) (fun rec2 k y t s hat h hrec2=>?_)
  ·obtain⟨⟨s1,s2⟩,m⟩:=s
   obtain⟨hinv,hm,hml,hil⟩:=h
   dsimp only at hil ⊢
   have hdl:(s1.drop i).length=s1.length - i:=List.length_drop
   have k5:(0:Int)≤((s1.drop i).length:Int):=by omega
   have k6:(1:Int)≤((s1.drop i).length:Int):=by omega
   simp only[z00,decide_false,Bool.false_eq_true,if_false,k5,k6,Int.le_refl,decide_true,if_true,Int.toNat_natCast,List.take_length,show (0:Int)≤1 from by omega]
   have:=hrec hi30 ((s1,s2),m) ⟨hinv,hm,hml⟩
   dsimp only at this
   rw[List.drop_drop]
   exact this
  ·obtain⟨⟨s1,s2⟩,m⟩:=s
   obtain⟨hinv,hm,hml,hil⟩:=h
   have hlen:=hinv.lens h5
   dsimp only at hm hml hlen hil
   have hy:=hsi y hat.mem
   have hmi:∀ z∈m,Ins R.length z:=fun z hz=>by
    have:=hm z
    rw[z4s.2 hz] at this
    have this:=this.symm
    rw[Bool.or_eq_true] at this
    rcases this with h1 | h1
    ·exact hinv.left z (z4s.1 h1)
    ·exact hinv.right z (z4s.1 h1)
   dsimp only
   simp only[hat.lt,hat.nn,hat.rd,hat.wrap,decide_true,if_true,zmq hmi (by omega) hy,Option.bind_some,hm]
   have hs':=hinv.step (cm:=comd R) hy
   have hsl':=zwb (comd R) (s1,s2) y
   cases b1:(hasB s1 y||hasB s2 y) with
   | true=>
    have hst:zfs (comd R) (s1,s2) y=(s1,s2):=by unfold zfs; rw[if_pos b1]
    simp only[if_true]
    have:=hrec2 ((s1,s2),m) ⟨hinv,hm,hml,hil⟩
    rw[z5w,hst]
    exact this
   | false=>
   simp only[Bool.false_eq_true,if_false]
   have hmb:((m.length+([y]:List (List Int)).length)*24≤140737488355328):=by simp only[List.length_cons,List.length_nil]; omega
   obtain⟨jy,cy,rfl,hjy,hcy⟩:=hy
   obtain⟨l2,r0,r1⟩:=zic jy cy
   have k3:(0:Int)<((pl jy cy).length:Int):=by rw[l2]; omega
   have k4:(1:Int)<((pl jy cy).length:Int):=by rw[l2]; omega
   simp only[hmb,k3,k4,r0,r1,Int.le_refl,decide_true,if_true,show (0:Int)≤1 from by omega]
   rw[(zmv hR hjy (by omega)).2,Option.bind_some]
   have hcm:comd R (pl jy cy)=((z1b R jy cy).2.2.1==(3:Int)):=by unfold comd; rw[z2s]
   dsimp only
   rw[←hcm]
   have hm2:∀ a b:List (List Int),a.length+b.length=s1.length+s2.length+1→(∀ z,(hasB a z||hasB b z)=(hasB s1 z||hasB s2 z||same z (pl jy cy)))→(∀ z,hasB (m++[pl jy cy]) z=(hasB a z||hasB b z))∧(m++[pl jy cy]).length=a.length+b.length:=by
    intro a b hab hz
    refine⟨fun z=>?_,by simp; omega⟩
    rw[zjx,hm z,zjw,hz z]
   cases b3:comd R (pl jy cy) with
   | true=>
    have hst:zfs (comd R) (s1,s2) (pl jy cy)=(s1++[pl jy cy],s2):=by unfold zfs; rw[b1]; simp[b3]
    have hb:(((s1.drop i).length+([pl jy cy]:List (List Int)).length)*24≤140737488355328):=by simp only[List.length_cons,List.length_nil,List.length_drop]; omega
    simp only[hb,decide_true,if_true]
    rw[hst] at hs' hsl'
    obtain⟨z1,z2⟩:=hm2 (s1++[pl jy cy]) s2 (by simp; omega) fun z=>by rw[zjx,zjw]; cases hasB s1 z<;>cases hasB s2 z<;>cases same z (pl jy cy)<;>rfl
    have:=hrec2 ((s1++[pl jy cy],s2),m++[pl jy cy]) ⟨hs',z1,z2,by simp; omega⟩
    rw[z5w,hst]
    dsimp only at this
    rw[List.drop_append_of_le_length (by omega)] at this
    exact this
   | false=>
    have hst:zfs (comd R) (s1,s2) (pl jy cy)=(s1,s2++[pl jy cy]):=by unfold zfs; rw[b1]; simp[b3]
    have hb:((s2.length+([pl jy cy]:List (List Int)).length)*24≤140737488355328):=by simp only[List.length_cons,List.length_nil]; omega
    simp only[hb,decide_true,if_true,Bool.false_eq_true,if_false]
    rw[hst] at hs' hsl'
    obtain⟨z1,z2⟩:=hm2 s1 (s2++[pl jy cy]) (by simp; omega) fun z=>by rw[zjx,zjw]; cases hasB s1 z<;>cases hasB s2 z<;>cases same z (pl jy cy)<;>rfl
    have:=hrec2 ((s1,s2++[pl jy cy]),m++[pl jy cy]) ⟨hs',z1,z2,hil⟩
    rw[z5w,hst]
    exact this
 ·have hd:s1.drop i=[]:=List.drop_of_length_le (by omega)
  rw[zpm (show ((s1,s2):BS).1.length≤i by show s1.length≤i; omega),hd]
  have k1:¬(((([]:List (List Int)).length):Int) > (0:Int)):=by simp
  simp only[k1,decide_false,Bool.false_eq_true,if_false]
  exact congrArg (fun z=>Option.bind z fun y12=>some ((y12,()),())) (zq1 hinv.right (by have:=hinv.lens h5; dsimp only at this ⊢; omega)).1
def z5x (j:Nat):Nat→List T7→List (List Int)
 | _,[]=>[]
 | i,r::t=>(if r.2.2.1==(3:Int) then [pl j i] else [])++z5x j (i+1) t
def comR:Nat→List (List T7)→List (List Int)
 | _,[]=>[]
 | j,x::u=>z5x j 0 x++comR (j+1) u
theorem zce {j:Nat}:∀ {t:List T7} {i:Nat} {e:List Int},e∈z5x j i t→∃ c,e=pl j c∧c<i+t.length
 | [],i,e,h=>by simp[z5x] at h
 | r::t,i,e,h=>by
  simp only[z5x,List.mem_append] at h
  rcases h with h | h
  ·split at h
   ·simp at h; exact⟨i,h,by simp⟩
   ·simp at h
  ·obtain⟨c,h1,h2⟩:=zce h
   exact⟨c,h1,by simp only[List.length_cons]; omega⟩
theorem zdg:∀ {u:List (List T7)} {j:Nat} {e:List Int},(∀ x∈u,x.length≤6)→e∈comR j u→Ins (j+u.length) e
 | [],j,e,_,h=>by simp[comR] at h
 | x::u,j,e,hu,h=>by
  simp only[comR,List.mem_append] at h
  rcases h with h | h
  ·obtain⟨c,h1,h2⟩:=zce h
   have:=hu x (by simp)
   exact⟨j,c,h1,by simp,by omega⟩
  ·obtain⟨k,c,h1,h2,h3⟩:=zdg (fun y hy=>hu y (by simp[hy])) h
   exact⟨k,c,h1,by simp only[List.length_cons]; omega,h3⟩
theorem zno (j:Nat):∀ (t:List T7) (i:Nat),(z5x j i t).length≤t.length
 | [],_=>by simp[z5x]
 | r::t,i=>by
  have:=zno j t (i+1)
  simp only[z5x,List.length_append,List.length_cons]
  split<;>simp<;>omega
theorem zk0:∀ (u:List (List T7)) (j:Nat),(∀ x∈u,x.length≤6)→(comR j u).length≤6*u.length
 | [],_,_=>by simp[comR]
 | x::u,j,h=>by
  have h1:=zk0 u (j+1) fun y hy=>h y (by simp[hy])
  have h2:=zno j x 0
  have h3:=h x (by simp)
  simp only[comR,List.length_append,List.length_cons]
  omega
theorem z9j {R:List (List T7)} (hR:GoodR R):z2u (tb R)=some ((comR 0 R,()),()):=by
 unfold z2u
 refine z0q 8 fun N hN=>?_
 unfold z65
 have h5:=hR.five
 refine z06 R hR.max (fun j (s:List (List Int))=>((R,(R.length:Int),(j:Int),()),(tb R,([]:List (List Int)),s,()))) (fun j u s=>((s++comR j u,()),())) (fun j u s=>s.length≤6*j∧∀ x∈u,x.length≤6)
  [] rfl (by simp) ⟨by simp,hR.six⟩ (by omega) (fun rec s h=>?_) (fun rec j x u s hat h hrec=>?_)
 ·dsimp only
  simp[comR]
 ·obtain⟨hs,hu⟩:=h
  have hx6:=hu x (by simp)
  have hjlt:=hat.ltn
  dsimp only
  simp only[hat.lt,hat.nn,hat.rd,decide_true,if_true]
  refine z06 x (by rw[z03]; omega) (fun i (s:List (List Int))=>(((j:Int),R,(R.length:Int),(j:Int),x,(x.length:Int),(i:Int),()),(tb R,([]:List (List Int)),s,())))
   (fun i t s=>((s++(z5x j i t++comR (j+1) u),()),())) (fun i t s=>s.length≤6*j+i) s rfl rfl (by omega) (by omega) (fun rec2 s h=>?_) (fun rec2 i r t s hat2 h hrec2=>?_)
  ·dsimp only
   simp only[z00,decide_false,Bool.false_eq_true,if_false,hat.wrap,z5x,List.nil_append]
   exact hrec s ⟨by omega,fun y hy=>hu y (by simp[hy])⟩
  ·have hilt:=hat2.ltn
   dsimp only
   simp only[hat2.lt,hat2.nn,hat2.rd,hat2.wrap,decide_true,if_true,z5x]
   cases hb:(r.2.2.1==(3:Int)) with
   | true=>
    have hc:((s.length+([[(j:Int),((i+1:Nat):Int)]]:List (List Int)).length)*24≤140737488355328):=by simp only[List.length_cons,List.length_nil]; omega
    simp only[hc,decide_true,if_true]
    refine (hrec2 _ (by simp; omega)).trans ?_
    simp[pl]
   | false=>
    simp only[Bool.false_eq_true,if_false,List.nil_append]
    exact hrec2 s (by omega)
theorem zc7 {R:List (List T7)} (hR:GoodR R):z1l (tb R)=some ((comR 0 R,()),()):=by
 unfold z1l
 refine z0q 8 fun N hN=>?_
 unfold z3x
 have h5:=hR.five
 refine z06 R hR.max (fun j (s:List (List Int))=>((R,(R.length:Int),(j:Int),()),(tb R,([]:List (List Int)),s,(()),tb R,()))) (fun j u s=>((s++comR j u,()),())) (fun j u s=>s.length≤6*j∧∀ x∈u,x.length≤6)
  [] rfl (by simp) ⟨by simp,hR.six⟩ (by omega) (fun rec s h=>?_) (fun rec j x u s hat h hrec=>?_)
 ·dsimp only
  simp[comR]
 ·obtain⟨hs,hu⟩:=h
  have hx6:=hu x (by simp)
  have hjlt:=hat.ltn
  dsimp only
  simp only[hat.lt,hat.nn,hat.rd,decide_true,if_true]
  refine z06 x (by rw[z03]; omega) (fun i (s:List (List Int))=>(((j:Int),R,(R.length:Int),(j:Int),x,(x.length:Int),(i:Int),()),(tb R,([]:List (List Int)),s,(()),tb R,())))
   (fun i t s=>((s++(z5x j i t++comR (j+1) u),()),())) (fun i t s=>s.length≤6*j+i) s rfl rfl (by omega) (by omega) (fun rec2 s h=>?_) (fun rec2 i r t s hat2 h hrec2=>?_)
  ·dsimp only
   simp only[z00,decide_false,Bool.false_eq_true,if_false,hat.wrap,z5x,List.nil_append]
   exact hrec s ⟨by omega,fun y hy=>hu y (by simp[hy])⟩
  ·have hilt:=hat2.ltn
   dsimp only
   simp only[hat2.lt,hat2.nn,hat2.rd,hat2.wrap,decide_true,if_true,z5x]
   cases hb:(r.2.2.1==(3:Int)) with
   | true=>
    have hc:((s.length+([[(j:Int),((i+1:Nat):Int)]]:List (List Int)).length)*24≤140737488355328):=by simp only[List.length_cons,List.length_nil]; omega
    simp only[hc,decide_true,if_true]
    refine (hrec2 _ (by simp; omega)).trans ?_
    simp[pl]
   | false=>
    simp only[Bool.false_eq_true,if_false,List.nil_append]
    exact hrec2 s (by omega)
noncomputable def zt7 (R:List (List T7)) (x:List Int):Bool:=(walk R 0 ([x],[])).2.isEmpty
noncomputable def rdy (R:List (List T7)):List (List Int):=(comR 0 R).filter (zt7 R)
theorem z63 {R:List (List T7)} (hR:GoodR R):∀ x∈rdy R,Ins R.length x:=fun x hx=>by
 have:=zdg hR.six (List.mem_filter.1 hx).1
 simpa using this
theorem zoc {R:List (List T7)} (hR:GoodR R):(rdy R).length≤30:=by
 have h1:=List.length_filter_le (zt7 R) (comR 0 R)
 have h2:=zk0 R 0 hR.six
 have:=hR.five
 unfold rdy
 omega
theorem zt2 {α:Type} (l:List α):((l.length:Int)==(0:Int))=l.isEmpty:=by cases l with
 | nil=>rfl
 | cons a l=>simp; omega
theorem zk9 {R:List (List T7)} (hR:GoodR R):z7m (tb R)=some ((rdy R,()),()):=by
 unfold z7m
 refine z0q 32 fun N hN=>?_
 unfold zb3
 have h5:=hR.five
 rw[z9j hR,Option.bind_some]
 have hci:∀ x∈comR 0 R,Ins R.length x:=fun x hx=>by simpa using zdg hR.six hx
 have hcl:=zk0 R 0 hR.six
 unfold rdy
 generalize comR 0 R=L at hci hcl
 dsimp only
 refine z06 L (by rw[z03]; omega) (fun i (s:List (List Int))=>(((L.length:Int),(i:Int),()),(tb R,([]:List (List Int)),s,L,()))) (fun i t s=>((s++t.filter (zt7 R),()),())) (fun i t s=>s.length≤i)
  [] rfl (by simp) (by simp) (by omega) (fun rec s h=>?_) (fun rec i x t s hat h hrec=>?_)
 ·dsimp only
  simp
 ·obtain⟨j,c,rfl,hj,hc⟩:=hci x hat.mem
  have hilt:=hat.ltn
  obtain⟨l2,r0,r1⟩:=zic j c
  have k3:(0:Int)<((pl j c).length:Int):=by rw[l2]; omega
  have k4:(1:Int)<((pl j c).length:Int):=by rw[l2]; omega
  dsimp only
  simp only[hat.lt,hat.nn,hat.rd,hat.wrap,k3,k4,r0,r1,Int.le_refl,decide_true,if_true,show (0:Int)≤1 from by omega]
  rw[zh3 hR hj hc,Option.bind_some]
  have he:(((z89 (walk R 0 ([pl j c],[])).2).length:Int)==(0:Int))=zt7 R (pl j c):=by
   rw[zc6,zt2]; rfl
  dsimp only
  rw[he,List.filter_cons]
  cases hb:zt7 R (pl j c) with
  | true=>
   have hc:((s.length+([pl j c]:List (List Int)).length)*24≤140737488355328):=by simp only[List.length_cons,List.length_nil]; omega
   simp only[hc,decide_true,if_true]
   refine (hrec _ (by simp; omega)).trans ?_
   simp
  | false=>
   simp only[Bool.false_eq_true,if_false]
   exact hrec s (by omega)
theorem zow {R:List (List T7)} (hR:GoodR R):z42 (tb R)=some ((rdy R,()),()):=by
 unfold z42 z67
 rw[zc7 hR,Option.bind_some]
 have hci:∀ x∈comR 0 R,Ins R.length x:=fun x hx=>by simpa using zdg hR.six hx
 dsimp only
 rw[znl (fun x=>!zt7 R x) fun x hx=>by
  rw[zjj hR (hci x hx)]
  show some (decide (((blk R x).length:Int) > (0:Int)))=_
  rw[y2n hR (hci x hx)]
  unfold zt7
  cases (walk R 0 ([x],[])).2 with
  | nil=>rfl
  | cons a l=>simp]
 simp[rdy]
theorem y2f {R:List (List T7)} (hR:GoodR R) (j c:Nat) (hc:c≤7):(∃ k,z1u (rdy R) (pl j c)=some ((k,()),())∧decide (k≥(0:Int))=hasB (rdy R) (pl j c))∧z26 (rdy R) (pl j c)=some ((hasB (rdy R) (pl j c),()),()):=by
 have hi:=z63 hR
 have hl:=zoc hR
 have h2:(pl j c).length≤maxLen:=by rw[z03]; simp[pl]
 refine⟨⟨_,zt9 (zvv hi (by omega)) h2,?_⟩,?_⟩
 ·rw[z96 _ _ _ (by omega)]; rfl
 ·unfold z26 z3z
  rw[z8d (fun x=>same (pl j c) x) (by rw[z03]; omega) fun x hx=>by
   dsimp only
   rw[z9e _ _ h2 (by rw[(hi x hx).len,z03]; omega)]
   rfl]
  rfl
structure GG (g:List (List Int)):Prop where
 le:g.length≤40
 pts:∀ l∈g,∀ q∈l,0≤q∧q<(g.length:Int)
def outs (g:List (List Int)) (p:Int):List Int:=g.getD p.toNat []
theorem GG.outs {g:List (List Int)} (h:GG g) {p q:Int} (hq:q∈outs g p):0≤q∧q<(g.length:Int):=by
 unfold P.outs at hq
 rw[List.getD_eq_getElem?_getD] at hq
 cases hg:g[p.toNat]? with
 | none=>rw[hg] at hq; simp at hq
 | some l=>rw[hg] at hq; exact h.pts l (List.mem_of_getElem? hg) q hq
def addP (m:List Int) (q:Int):List Int:=if m.contains q then m else m++[q]
def zis (m:List Int) (l:List Int):List Int:=l.foldl addP m
theorem zcd (m:List Int) (q:Int) (l:List Int):zis m (q::l)=zis (addP m q) l:=rfl
def bfsP (g:List (List Int)):Nat→Nat→List Int→List Int
 | 0,_,m=>m
 | k+1,i,m=>match m[i]? with
  | some x=>bfsP g k (i+1) (zis m (outs g x))
  | none=>m
def zmg (g:List (List Int)) (i:Nat) (m:List Int):List Int:=bfsP g (60 - i) i m
theorem zn0 {g:List (List Int)} {i:Nat} {m:List Int} (h:m.length≤i):zmg g i m=m:=by
 unfold zmg
 cases 60 - i with
 | zero=>rfl
 | succ k=>unfold bfsP; rw[List.getElem?_eq_none h]
theorem zmz {g:List (List Int)} {i:Nat} {m:List Int} {x:Int} (hi:i<60) (h:m[i]? = some x):zmg g i m=zmg g (i+1) (zis m (outs g x)):=by
 unfold zmg
 rw[show 60 - i=(60 - (i+1))+1 by omega]
 conv=>lhs; unfold bfsP
 rw[h]
structure InP (n:Nat) (m:List Int):Prop where
 nd:m.Nodup
 pts:∀ x∈m,0≤x∧x<(n:Int)
theorem InP.len {n:Nat} {m:List Int} (h:InP n m):m.length≤n:=by
 have:=za0 (m:=(List.range n).map fun (k:Nat)=>(k:Int)) h.nd fun x hx=>by
  obtain⟨h1,h2⟩:=h.pts x hx
  exact List.mem_map.2 ⟨x.toNat,List.mem_range.2 (by omega),by omega⟩
 simpa using this
theorem zu1 {m:List Int} {q x:Int}:x∈addP m q↔x∈m∨x=q:=by
 unfold addP
 split
 ·rename_i h
  exact⟨Or.inl,fun h'=>h'.elim id fun e=>e▸(List.contains_iff_mem.1 h)⟩
 ·simp
theorem InP.add {n:Nat} {m:List Int} (h:InP n m) {q:Int} (hq:0≤q∧q<(n:Int)):InP n (addP m q):=by
 refine⟨?_,fun x hx=>(zu1.1 hx).elim (h.pts x) fun e=>e▸hq⟩
 unfold addP
 split
 ·exact h.nd
 ·rename_i hh
  have hn:q∉m:=fun hm=>hh (List.contains_iff_mem.2 hm)
  exact (List.perm_append_singleton q m).nodup_iff.2 (List.nodup_cons.2 ⟨hn,h.nd⟩)
theorem zhp {x:Int}:∀ {l m:List Int},x∈zis m l↔x∈m∨x∈l
 | [],m=>by simp[zis]
 | q::l,m=>by
  rw[zcd,zhp,zu1]
  simp only[List.mem_cons]
  exact⟨fun h=>by rcases h with (h | h) | h<;>simp[h],fun h=>by rcases h with h | h | h<;>simp[h]⟩
theorem InP.fold {n:Nat}:∀ {l m:List Int},InP n m→(∀ q∈l,0≤q∧q<(n:Int))→InP n (zis m l)
 | [],m,h,_=>h
 | q::l,m,h,hl=>by
  rw[zcd]
  exact InP.fold (h.add (hl q (by simp))) fun x hx=>hl x (by simp[hx])
theorem y0l (m:List Int) (q:Int):∃ r,addP m q=m++r:=by
 unfold addP
 split
 ·exact⟨[],by simp⟩
 ·exact⟨[q],rfl⟩
theorem zrb:∀ (l m:List Int),∃ r,zis m l=m++r
 | [],m=>⟨[],by simp[zis]⟩
 | q::l,m=>by
  obtain⟨r,h⟩:=y0l m q
  obtain⟨s,h'⟩:=zrb l (addP m q)
  exact⟨r++s,by rw[zcd,h',h,List.append_assoc]⟩
structure Pt (g:List (List Int)) (k:Int):Prop where
 lo:0≤k
 hi:k<(g.length:Int)
def Cl (g:List (List Int)) (S:Int→Prop):Prop:=∀ p,Pt g p→S p→∀ q∈outs g p,S q
theorem InP.pt {g:List (List Int)} {m:List Int} (h:InP g.length m) {x:Int} (hx:x∈m):Pt g x:=⟨(h.pts x hx).1,(h.pts x hx).2⟩
theorem zpn {g:List (List Int)} (hg:GG g):∀ (k i:Nat) (m:List Int),k+i=60→InP g.length m→i≤m.length→(∀ j x,j<i→m[j]? = some x→∀ q∈outs g x,q∈m) →
  InP g.length (bfsP g k i m)∧(∀ x∈m,x∈bfsP g k i m)∧Cl g (·∈bfsP g k i m)∧∀ S:Int→Prop,Cl g S→(∀ x∈m,S x)→∀ x∈bfsP g k i m,S x
 | 0,i,m,hk,hm,hi,_=>by
  have:=hm.len; have:=hg.le; omega
 | k+1,i,m,hk,hm,hi,hc=>by
  unfold bfsP
  split
  ·rename_i x hx
   have hxm:=List.mem_of_getElem? hx
   have hil:i<m.length:=by
    rcases Nat.lt_or_ge i m.length with h | h
    ·exact h
    ·rw[List.getElem?_eq_none h] at hx; simp at hx
   obtain⟨r,hr⟩:=zrb (outs g x) m
   have hm':=hm.fold (l:=outs g x) fun q hq=>hg.outs hq
   have hlen:m.length≤(zis m (outs g x)).length:=by rw[hr]; simp
   obtain⟨h1,h2,h3,h4⟩:=zpn hg k (i+1) (zis m (outs g x)) (by omega) hm' (by omega) fun j y hj hy q hq=>by
    rw[hr,List.getElem?_append_left (by omega)] at hy
    rw[zhp]
    rcases Nat.lt_or_ge j i with h | h
    ·exact Or.inl (hc j y h hy q hq)
    ·have e:j=i:=by omega
     rw[e,hx] at hy
     exact Or.inr (Option.some.inj hy▸hq)
   refine⟨h1,fun y hy=>h2 y (zhp.2 (Or.inl hy)),h3,fun S hS hm2 y hy=>h4 S hS (fun z hz=>?_) y hy⟩
   rcases zhp.1 hz with h | h
   ·exact hm2 z h
   ·exact hS x (hm.pt hxm) (hm2 x hxm) z h
  ·rename_i hx
   have hlen:m.length≤i:=by
    rcases Nat.lt_or_ge i m.length with h | h
    ·rw[List.getElem?_eq_getElem h] at hx; simp at hx
    ·exact h
   refine⟨hm,fun y hy=>hy,fun p _ hp q hq=>?_,fun S hS hm2=>hm2⟩
   obtain⟨j,hj,e⟩:=List.mem_iff_getElem.1 hp
   exact hc j p (by omega) (by rw[List.getElem?_eq_getElem hj,e]) q hq
def z3y (g:List (List Int)) (k:Int):List Int:=zmg g 0 [k]
theorem za3 {g:List (List Int)} (hg:GG g) {k:Int} (hk:Pt g k):InP g.length (z3y g k)∧k∈z3y g k∧Cl g (·∈z3y g k)∧∀ S:Int→Prop,Cl g S→S k→∀ x∈z3y g k,S x:=by
 obtain⟨h1,h2,h3,h4⟩:=zpn hg 60 0 [k] rfl ⟨by simp,fun x hx=>by simp at hx; rw[hx]; exact⟨hk.lo,hk.hi⟩⟩ (by simp) (by omega)
 exact⟨h1,h2 k (by simp),h3,fun S hS hk=>h4 S hS fun x hx=>by simp at hx; rw[hx]; exact hk⟩
theorem z6d {g:List (List Int)} (hg:GG g) {k p:Int} (hk:Pt g k) (hp:p∈z3y g k):Pt g p:=by
 obtain⟨a,b⟩:=(za3 hg hk).1.pts p hp
 exact⟨a,b⟩
theorem zc5 {g:List (List Int)} (hg:GG g) {k:Int} (hk:Pt g k):k∈z3y g k:=(za3 hg hk).2.1
theorem z7a {g:List (List Int)} (hg:GG g) {k p q:Int} (hk:Pt g k) (hp:p∈z3y g k) (hq:q∈z3y g p):q∈z3y g k:=
 (za3 hg (z6d hg hk hp)).2.2.2 (·∈z3y g k) (za3 hg hk).2.2.1 hp q hq
theorem zxg {g:List (List Int)} (hg:GG g) {k:Int} (hk:Pt g k) {S:Int→Prop} (hS:Cl g S) (h:S k) {p:Int} (hp:p∈z3y g k):S p:=(za3 hg hk).2.2.2 S hS h p hp
theorem zxh {g:List (List Int)} (hg:GG g) {k p:Int} (hk:Pt g k) (hp:p∈outs g k):p∈z3y g k:=(za3 hg hk).2.2.1 k hk (zc5 hg hk) p hp
def ptsN (n:Nat):List Int:=(List.range n).map fun (k:Nat)=>(k:Int)
theorem zfl {n:Nat} {p:Int}:p∈ptsN n↔0≤p∧p<(n:Int):=by
 simp only[ptsN,List.mem_map,List.mem_range]
 exact⟨fun ⟨k,h,e⟩=>by omega,fun ⟨h1,h2⟩=>⟨p.toNat,by omega,by omega⟩⟩
theorem Pt.mem {g:List (List Int)} {p:Int} (h:Pt g p):p∈ptsN g.length:=zfl.2 ⟨h.lo,h.hi⟩
def cls (g:List (List Int)) (k:Int):List Int:=(ptsN g.length).filter fun p=>(z3y g k).contains p&&(z3y g p).contains k
theorem zgj {g:List (List Int)} (hg:GG g) {k p:Int} (hk:Pt g k):p∈cls g k↔p∈z3y g k∧k∈z3y g p:=by
 simp only[cls,List.mem_filter,Bool.and_eq_true,List.contains_iff_mem]
 exact⟨fun h=>h.2,fun h=>⟨(z6d hg hk h.1).mem,h⟩⟩
theorem zpc {g:List (List Int)} (hg:GG g) {k:Int} (hk:Pt g k):k∈cls g k:=(zgj hg hk).2 ⟨zc5 hg hk,zc5 hg hk⟩
theorem zym {g:List (List Int)} (hg:GG g) {k p:Int} (hk:Pt g k) (hp:p∈cls g k):cls g p=cls g k:=by
 obtain⟨h1,h2⟩:=(zgj hg hk).1 hp
 have hpp:=z6d hg hk h1
 unfold cls
 refine List.filter_congr fun q hq=>?_
 rw[Bool.eq_iff_iff]
 simp only[Bool.and_eq_true,List.contains_iff_mem]
 obtain⟨q1,q2⟩:=zfl.1 hq
 have hqp:Pt g q:=⟨q1,q2⟩
 exact⟨fun ⟨a,b⟩=>⟨z7a hg hk h1 a,z7a hg hqp b h2⟩,fun ⟨a,b⟩=>⟨z7a hg hpp h2 a,z7a hg hqp b h1⟩⟩
def IsC (g:List (List Int)) (c:List Int):Prop:=∃ k,Pt g k∧c=cls g k
theorem IsC.eq {g:List (List Int)} (hg:GG g) {c:List Int} (h:IsC g c) {p:Int} (hp:p∈c):Pt g p∧c=cls g p:=by
 obtain⟨k,hk,rfl⟩:=h
 exact⟨z6d hg hk ((zgj hg hk).1 hp).1,(zym hg hk hp).symm⟩
theorem IsC.ne {g:List (List Int)} (hg:GG g) {c:List Int} (h:IsC g c):∃ a r,c=a::r:=by
 obtain⟨k,hk,rfl⟩:=h
 have:=zpc hg hk
 cases h:cls g k with
 | nil=>rw[h] at this; simp at this
 | cons a r=>exact⟨a,r,rfl⟩
structure Left (g:List (List Int)) (L:List (List Int)):Prop where
 isc:∀ c∈L,IsC g c
 nd:L.Nodup
 cl:Cl g fun p=>∀ c∈L,p∉c
def zcc (g:List (List Int)) (L:List (List Int)) (c:List Int):Bool:=c.all fun p=>(outs g p).all fun q=>c.contains q||L.all fun o=>!o.contains q
theorem zly {g:List (List Int)} {L:List (List Int)} {c:List Int}:zcc g L c=true↔∀ p∈c,∀ q∈outs g p,q∈c∨∀ o∈L,q∉o:=by
 simp only[zcc,List.all_eq_true,Bool.or_eq_true,List.contains_iff_mem,Bool.not_eq_true',←Bool.not_eq_true]
theorem zlx {g:List (List Int)} (hg:GG g) {L:List (List Int)} (hL:Left g L) {c:List Int} (hc:c∈L) {a:Int} (ha:a∈c):zcc g L c=true↔∀ q∈z3y g a,q∈c∨∀ o∈L,q∉o:=by
 obtain⟨hap,hac⟩:=(hL.isc c hc).eq hg ha
 rw[zly]
 constructor
 ·intro h
  refine fun q hq=>zxg hg hap (S:=fun q=>q∈c∨∀ o∈L,q∉o) ?_ (Or.inl ha) hq
  intro p hpt hp q hq
  rcases hp with hp | hp
  ·exact h p hp q hq
  ·exact Or.inr (hL.cl p hpt hp q hq)
 ·intro h p hp q hq
  rw[hac] at hp
  have h1:=((zgj hg hap).1 hp).1
  exact h q (z7a hg hap h1 (zxh hg (z6d hg hap h1) hq))
theorem Left.same {g:List (List Int)} (hg:GG g) {L:List (List Int)} (hL:Left g L) {c d:List Int} (hc:c∈L) (hd:d∈L) {p:Int} (h1:p∈c) (h2:p∈d):c=d:=by
 rw[((hL.isc c hc).eq hg h1).2,((hL.isc d hd).eq hg h2).2]
theorem zr8 {g:List (List Int)} (hg:GG g) {L:List (List Int)} (hL:Left g L) {c:List Int} (hc:c∈L):zcc g L c=true↔∀ p∈c,∀ o∈L,o≠c→∀ q∈o,q∉outs g p:=by
 rw[zly]
 constructor
 ·intro h p hp o ho hne q hq hqp
  rcases h p hp q hqp with h | h
  ·exact hne (hL.same hg ho hc hq h)
  ·exact h o ho hq
 ·intro h p hp q hq
  refine (Classical.em (q∈c)).imp id fun hn o ho hqo=>?_
  exact h p hp o ho (fun e=>hn (e▸hqo)) q hqo hq
theorem Left.free {g:List (List Int)} (hg:GG g) {L:List (List Int)} (hL:Left g L) (hne:L≠[]):∃ c∈L,zcc g L c=true:=by
 have key:∀ (n:Nat) (c:List Int),c∈L→∀ a∈c,(z3y g a).length≤n→∃ c∈L,zcc g L c=true:=by
  intro n
  induction n with
  | zero=>
   intro c hc a ha hl
   have:=zc5 hg ((hL.isc c hc).eq hg ha).1
   have:=List.length_pos_of_mem this
   omega
  | succ n ih=>
   intro c hc a ha hl
   by_cases hf:zcc g L c=true
   ·exact⟨c,hc,hf⟩
   ·rw[zlx hg hL hc ha] at hf
    simp only[Classical.not_forall,not_or,Classical.not_not] at hf
    obtain⟨q,hq,hqc,o,ho,hqo⟩:=hf
    obtain⟨hap,hac⟩:=(hL.isc c hc).eq hg ha
    have hqp:=z6d hg hap hq
    have hna:a∉z3y g q:=fun h=>hqc (by rw[hac]; exact (zgj hg hap).2 ⟨hq,h⟩)
    refine ih o ho q hqo ?_
    have hlt:(a::z3y g q).length≤(z3y g a).length:=za0 (List.nodup_cons.2 ⟨hna,(za3 hg hqp).1.nd⟩) fun x hx=>by
     rcases List.mem_cons.1 hx with rfl | hx
     ·exact zc5 hg hap
     ·exact z7a hg hap hq hx
    simp only[List.length_cons] at hlt
    omega
 cases L with
 | nil=>exact absurd rfl hne
 | cons c L=>
  obtain⟨a,r,e⟩:=(hL.isc c (by simp)).ne hg
  exact key _ c (by simp) a (by rw[e]; simp) (Nat.le_refl _)
theorem zet {α:Type} [DecidableEq α] {L:List α} (h:L.Nodup) {i:Nat} {c:α} (hi:L[i]? = some c) {x:α}:x∈L.eraseIdx i↔x∈L∧x≠c:=by
 induction L generalizing i with
 | nil=>simp at hi
 | cons y L ih=>
  obtain⟨h1,h2⟩:=List.nodup_cons.1 h
  cases i with
  | zero=>
   simp only[List.getElem?_cons_zero,Option.some.injEq] at hi
   subst hi
   simp only[List.eraseIdx_cons_zero,List.mem_cons]
   exact⟨fun hx=>⟨Or.inr hx,fun e=>h1 (e▸hx)⟩,fun ⟨hx,hn⟩=>hx.resolve_left hn⟩
  | succ i=>
   simp only[List.getElem?_cons_succ] at hi
   simp only[List.eraseIdx_cons_succ,List.mem_cons,ih h2 hi]
   have hc:=List.mem_of_getElem? hi
   exact⟨fun h=>h.elim (fun e=>⟨Or.inl e,fun e'=>h1 (e▸e'▸hc)⟩) fun h=>⟨Or.inr h.1,h.2⟩,fun ⟨a,b⟩=>a.imp id fun a=>⟨a,b⟩⟩
theorem Left.erase {g:List (List Int)} (hg:GG g) {L:List (List Int)} (hL:Left g L) {i:Nat} {c:List Int} (hi:L[i]? = some c) (hf:zcc g L c=true):Left g (L.eraseIdx i):=by
 have hm:∀ {x},x∈L.eraseIdx i↔x∈L∧x≠c:=zet hL.nd hi
 refine⟨fun d hd=>hL.isc d (hm.1 hd).1,hL.nd.sublist (List.eraseIdx_sublist L i),?_⟩
 intro p hpt hp q hq d hd hqd
 obtain⟨hdL,hdc⟩:=hm.1 hd
 have hcL:=List.mem_of_getElem? hi
 by_cases hpc:p∈c
 ·rcases zly.1 hf p hpc q hq with h | h
  ·exact hdc (hL.same hg hdL hcL hqd h)
  ·exact h d hdL hqd
 ·refine hL.cl p hpt (fun e he hpe=>?_) q hq d hdL hqd
  by_cases hec:e=c
  ·exact hpc (hec▸hpe)
  ·exact hp e (hm.2 ⟨he,hec⟩) hpe
def grps (g:List (List Int)):List (List Int):=((ptsN g.length).filter fun k=>(cls g k).head? == some k).map (cls g)
theorem zhm {α β:Type} {f:α→β}:∀ {l:List α},l.Nodup→(∀ x∈l,∀ y∈l,f x=f y→x=y)→(l.map f).Nodup
 | [],_,_=>by simp
 | x::l,h,hf=>by
  obtain⟨h1,h2⟩:=List.nodup_cons.1 h
  rw[List.map_cons,List.nodup_cons]
  refine⟨fun hm=>?_,zhm h2 fun a ha b hb=>hf a (by simp[ha]) b (by simp[hb])⟩
  obtain⟨y,hy,e⟩:=List.mem_map.1 hm
  exact h1 (hf y (by simp[hy]) x (by simp) e▸hy)
theorem zn9 (n:Nat):(ptsN n).Nodup:=zhm List.nodup_range fun x _ y _ h=>by have h:(x:Int)=(y:Int):=h; omega
theorem zcb {g:List (List Int)} (hg:GG g):Left g (grps g):=by
 have hmem:∀ {c},c∈grps g→∃ k,Pt g k∧cls g k=c∧c.head? = some k:=by
  intro c hc
  obtain⟨k,hk,e⟩:=List.mem_map.1 hc
  obtain⟨h1,h2⟩:=List.mem_filter.1 hk
  obtain⟨a,b⟩:=zfl.1 h1
  exact⟨k,⟨a,b⟩,e,by rw[←e]; simpa using h2⟩
 refine⟨fun c hc=>?_,?_,?_⟩
 ·obtain⟨k,hk,e,_⟩:=hmem hc
  exact⟨k,hk,e.symm⟩
 ·refine zhm ((zn9 _).sublist List.filter_sublist) fun x hx y hy e=>?_
  have h1:=(List.mem_filter.1 hx).2
  have h2:=(List.mem_filter.1 hy).2
  simp only[beq_iff_eq] at h1 h2
  rw[e,h2] at h1
  exact (Option.some.inj h1).symm
 ·intro p hp hn
  obtain⟨a,r,e⟩:=IsC.ne hg ⟨p,hp,rfl⟩
  have ha:a∈cls g p:=by rw[e]; simp
  have hap:=z6d hg hp ((zgj hg hp).1 ha).1
  have hca:=zym hg hp ha
  refine absurd (zpc hg hp) (hn (cls g p) ?_)
  refine List.mem_map.2 ⟨a,List.mem_filter.2 ⟨hap.mem,?_⟩,hca⟩
  rw[hca,e]
  simp
def za9 (g:List (List Int)):Nat→List (List Int)→List (List Int)
 | 0,_=>[]
 | k+1,L=>match L.findIdx? (zcc g L) with
  | some i=>L.getD i []::za9 g k (L.eraseIdx i)
  | none=>[]
def zms (g:List (List Int)):List (List Int):=za9 g (grps g).length (grps g)
theorem zwv {α:Type} {R:α→α→Prop} (asy:∀ x y,R x y→R y x→False):∀ {a b:List α},a.Pairwise R→b.Pairwise R→(∀ x,x∈a↔x∈b)→a=b
 | [],[],_,_,_=>rfl
 | [],y::b,_,_,h=>by have:=(h y).2 (by simp); simp at this
 | x::a,[],_,_,h=>by have:=(h x).1 (by simp); simp at this
 | x::a,y::b,ha,hb,h=>by
  obtain⟨a1,a2⟩:=List.pairwise_cons.1 ha
  obtain⟨b1,b2⟩:=List.pairwise_cons.1 hb
  have e:x=y:=by
   have h1:=(h x).1 (by simp)
   have h2:=(h y).2 (by simp)
   rcases List.mem_cons.1 h1 with h1 | h1
   ·exact h1
   rcases List.mem_cons.1 h2 with h2 | h2
   ·exact h2.symm
   exact (asy _ _ (a1 y h2) (b1 x h1)).elim
  subst e
  rw[zwv asy a2 b2 fun z=>?_]
  have hz:=h z
  simp only[List.mem_cons] at hz
  constructor
  ·intro hm
   rcases hz.1 (.inr hm) with rfl | h'
   ·exact (asy _ _ (a1 z hm) (a1 z hm)).elim
   ·exact h'
  ·intro hm
   rcases hz.2 (.inr hm) with rfl | h'
   ·exact (asy _ _ (b1 z hm) (b1 z hm)).elim
   ·exact h'
abbrev Ris (l:List Int):Prop:=l.Pairwise (·<·)
theorem zwr {a b:List Int} (ha:Ris a) (hb:Ris b) (h:∀ x,x∈a↔x∈b):a=b:=zwv (fun x y h1 h2=>by omega) ha hb h
theorem ztt (n:Nat):Ris (ptsN n):=by
 unfold Ris ptsN
 rw[List.pairwise_map]
 exact List.pairwise_lt_range.imp fun h=>by omega
def risN (n:Nat) (m:List Int):List Int:=(ptsN n).filter fun p=>m.contains p
theorem zo9 (n:Nat) (m:List Int):Ris (risN n m):=(ztt n).filter _
theorem zd3 {n:Nat} {m:List Int} {x:Int}:x∈risN n m↔(0≤x∧x<(n:Int))∧x∈m:=by
 unfold risN
 rw[List.mem_filter,zfl,List.contains_iff_mem]
def putL (q:Int):List Int→List Int
 | []=>[q]
 | x::l=>if x<q then x::putL q l else if x==q then x::l else q::x::l
theorem zjv {q x:Int}:∀ {l:List Int},x∈putL q l↔x=q∨x∈l
 | []=>by simp[putL]
 | y::l=>by
  unfold putL
  split
  ·simp only[List.mem_cons,zjv (l:=l)]
   exact⟨fun h=>by rcases h with h | h | h<;>simp[h],fun h=>by rcases h with h | h | h<;>simp[h]⟩
  ·split
   ·rename_i h
    have:y=q:=by simpa using h
    subst this
    simp
   ·simp
theorem zoe {q:Int}:∀ {l:List Int},Ris l→Ris (putL q l)
 | [],_=>by simp[putL,Ris]
 | y::l,h=>by
  obtain⟨h1,h2⟩:=List.pairwise_cons.1 h
  unfold putL
  split
  ·rename_i hlt
   refine List.pairwise_cons.2 ⟨fun z hz=>?_,zoe h2⟩
   rcases zjv.1 hz with rfl | hz
   ·exact hlt
   ·exact h1 z hz
  ·split
   ·exact h
   ·rename_i hlt hne
    have hne:y≠q:=by simpa using hne
    refine List.pairwise_cons.2 ⟨fun z hz=>?_,h⟩
    rcases List.mem_cons.1 hz with rfl | hz
    ·omega
    ·have:=h1 z hz; omega
theorem zts (q:Int):∀ l:List Int,(putL q l).length≤l.length+1
 | []=>by simp[putL]
 | y::l=>by
  have:=zts q l
  unfold putL
  split
  ·simp only[List.length_cons]; omega
  ·split<;>simp
theorem y0t {l:List Int} {n:Int} (hl:l.length≤1000000):z8c l n=some ((putL n l,()),()):=by
 have step:∀ (i:Nat),i≤l.length →
    (if (decide (0≤(i:Int))) then (if (decide ((i:Int)≤l.length)) then (if (decide (0≤(0:Int))) then (if (decide ((0:Int)≤(i:Int))) then (if (decide ((([]:List Int).length+((l.take (i:Int).toNat).drop (0:Int).toNat).length)*8≤140737488355328)) then (if (decide (((([]:List Int)++((l.take (i:Int).toNat).drop (0:Int).toNat)).length+([n]:List Int).length)*8≤140737488355328)) then (if (decide (0≤(l.length:Int))) then (if (decide ((l.length:Int)≤l.length)) then (if (decide (0≤(i:Int))) then (if (decide ((i:Int)≤(l.length:Int))) then (if (decide ((((([]:List Int)++((l.take (i:Int).toNat).drop (0:Int).toNat))++([n]:List Int)).length+((l.take (l.length:Int).toNat).drop (i:Int).toNat).length)*8≤140737488355328)) then (some (((((([]:List Int)++((l.take (i:Int).toNat).drop (0:Int).toNat))++([n]:List Int))++((l.take (l.length:Int).toNat).drop (i:Int).toNat)),()),())) else none) else none) else none) else none) else none) else none) else none) else none) else none) else none) else none:Option ((List Int×Unit)×Unit))=some ((l.take i++n::l.drop i,()),()):=by
  intro i hi
  have a1:(i:Int)≤(l.length:Int):=by omega
  have a2:((([]:List Int).length+((l.take (i:Int).toNat).drop (0:Int).toNat).length)*8≤140737488355328):=by simp; omega
  have a3:(((([]:List Int)++((l.take (i:Int).toNat).drop (0:Int).toNat)).length+([n]:List Int).length)*8≤140737488355328):=by simp; omega
  have a4:((((([]:List Int)++((l.take (i:Int).toNat).drop (0:Int).toNat))++([n]:List Int)).length+((l.take (l.length:Int).toNat).drop (i:Int).toNat).length)*8≤140737488355328):=by simp; omega
  have a5:(0:Int)≤(i:Int):=by omega
  have a6:(0:Int)≤(l.length:Int):=by omega
  simp only[a1,a2,a3,a4,a5,a6,Int.le_refl,decide_true,if_true]
  simp
 unfold z8c
 refine z0q (l.length+1) fun N hN=>?_
 unfold zee
 refine z1o l.length (fun i (s:Unit)=>((l,n,(i:Int),()),(([]:List Int),()))) (fun i s=>((l.take i++putL n (l.drop i),()),())) (fun i s=>True) () rfl (by simp) trivial (by omega) (fun rec i s hi _ hrec=>?_)
 by_cases hil:i<l.length
 ·have hlt:(i:Int)<(l.length:Int):=by omega
  have hnn:(0:Int)≤(i:Int):=by omega
  have hw:IntKind.i64.wrap ((i:Int)+1)=((i+1:Nat):Int):=by rw[z0b (by omega) (by omega)]; omega
  have hr:rd l (i:Int) (0:Int)=l[i]:=by rw[z6v]; simp[List.getD,List.getElem?_eq_getElem hil]
  have hd:l.drop i=l[i]::l.drop (i+1):=List.drop_eq_getElem_cons hil
  have ht:l.take (i+1)=l.take i++[l[i]]:=by rw[List.take_add_one,List.getElem?_eq_getElem hil]; rfl
  have hst:=step i (by omega)
  dsimp only
  simp only[hlt,hnn,hr,hw,decide_true,if_true]
  rw[hd]
  unfold putL
  by_cases h1:l[i]<n
  ·simp only[h1,decide_true,if_true]
   refine (hrec hil () trivial).trans ?_
   rw[ht,List.append_assoc]; rfl
  ·simp only[h1,decide_false,Bool.false_eq_true,if_false]
   by_cases h2:l[i]=n
   ·have h2':(l[i]==n)=true:=by simpa using h2
    simp only[h2',if_true]
    rw[←hd,List.take_append_drop]
   ·have h2':(l[i]==n)=false:=by simpa using h2
    simp only[h2',Bool.false_eq_true,if_false]
    rw[←hd]
    exact hst
 ·have hlt:¬(i:Int)<(l.length:Int):=by omega
  have e:i=l.length:=by omega
  have hst:=step i (by omega)
  dsimp only
  simp only[hlt,decide_false,Bool.false_eq_true,if_false]
  rw[show l.drop i=[] by rw[e]; simp] at hst ⊢
  exact hst
theorem zzi {n:Nat} {m:List Int} {q:Int} (hq:0≤q∧q<(n:Int)) (hm:¬q∈m):putL q (risN n m)=risN n (m++[q]):=by
 refine zwr (zoe (zo9 n m)) (zo9 n _) fun x=>?_
 rw[zjv,zd3,zd3,List.mem_append,List.mem_singleton]
 constructor
 ·rintro (rfl | ⟨h1,h2⟩)
  ·exact⟨hq,.inr rfl⟩
  ·exact⟨h1,.inl h2⟩
 ·rintro⟨h1,h2 | h2⟩
  ·exact .inr ⟨h1,h2⟩
  ·exact .inl h2
theorem zh9 (n:Nat) (m:List Int):(risN n m).length≤n:=by
 have:=List.length_filter_le (fun p=>m.contains p) (ptsN n)
 have e:(ptsN n).length=n:=by simp[ptsN]
 unfold risN; omega
def lds (g:List (List Int)) (k:Int):List Int:=risN g.length (z3y g k)
theorem zpy {n:Nat} {k:Int} (hk:0≤k∧k<(n:Int)):InP n [k]:=⟨by simp,fun x hx=>by simp at hx; rw[hx]; exact hk⟩
theorem zl1 {g:List (List Int)} {x:Int} (hx:0≤x∧x<(g.length:Int)):rd g x ([]:List Int)=outs g x:=rfl
theorem zk8 {g:List (List Int)} (hg:GG g) (hq:∀ l∈g,l.length≤100) {k:Int} (hk:Pt g k):z5h g k=some ((lds g k,()),()):=by
 unfold z5h
 refine z0q 102 fun N hN=>?_
 unfold z8h
 have h40:=hg.le
 have hk0:risN g.length [k]=[k]:=by
  refine zwr (zo9 _ _) (by simp[Ris]) fun x=>?_
  rw[zd3,List.mem_singleton]
  exact⟨fun h=>h.2,fun h=>⟨h▸⟨hk.lo,hk.hi⟩,h⟩⟩
 refine z1o 45 (fun i (m:List Int)=>((g,risN g.length m,(i:Int),()),(([]:List Int),m,()))) (fun i m=>((risN g.length (zmg g i m),()),())) (fun i m=>InP g.length m)
  [k] (by show ((g,risN g.length [k],((0:Nat):Int),()),(([]:List Int),[k],()))=_; rw[hk0]; rfl) rfl (zpy ⟨hk.lo,hk.hi⟩) (by omega) (fun rec i m hi h hrec=>?_)
 have hlen:=h.len
 dsimp only
 by_cases hil:i<m.length
 ·have hget:m[i]? = some m[i]:=List.getElem?_eq_getElem hil
  have hxp:=h.pts _ (List.getElem_mem hil)
  have hr:rd m (i:Int) (0:Int)=m[i]:=by rw[z6v]; simp[List.getD,hget]
  have k1:(i:Int)<(m.length:Int):=by omega
  have k2:(0:Int)≤(i:Int):=by omega
  simp only[k1,k2,hr,hxp.1,hxp.2,decide_true,if_true]
  rw[zmz (by omega) hget,zl1 hxp]
  have hol:∀ q∈outs g m[i],0≤q∧q<(g.length:Int):=fun q hq=>hg.outs hq
  have hob:(outs g m[i]).length≤100:=by
   unfold P.outs
   rw[List.getD_eq_getElem?_getD]
   cases hgx:g[m[i].toNat]? with
   | none=>simp
   | some l=>exact hq l (List.mem_of_getElem? hgx)
  generalize outs g m[i]=L at hol hob
  have hi45:i<45:=by omega
  refine z06 L (by rw[z03]; omega) (fun j (m:List Int)=>((g,risN g.length m,(i:Int),L,(L.length:Int),(j:Int),()),(([]:List Int),m,())))
   (fun j t m=>((risN g.length (zmg g (i+1) (zis m t)),()),())) (fun j t m=>InP g.length m) m rfl rfl h (by omega) (fun rec2 m h=>?_) (fun rec2 j y t m hat h hrec2=>?_)
  ·have hw:IntKind.i64.wrap ((i:Int)+1)=((i+1:Nat):Int):=by rw[z0b (by omega) (by omega)]; omega
   dsimp only
   simp only[z00,decide_false,Bool.false_eq_true,if_false,hw]
   exact hrec hi45 m h
  ·have hy:=hol y hat.mem
   have hlen:=h.len
   dsimp only
   simp only[hat.lt,hat.nn,hat.rd,hat.wrap,decide_true,if_true]
   rw[zck _ _ (by rw[z03]; omega),Option.bind_some]
   have hrec3:=hrec2 _ (h.add hy)
   rw[zcd]
   unfold addP at hrec3 ⊢
   dsimp only
   cases hb:m.contains y with
   | true=>
    simp only[hb,if_true,Bool.not_true,Bool.false_eq_true,if_false] at hrec3 ⊢
    exact hrec3
   | false=>
    have hm:¬y∈m:=fun hm=>by rw[List.contains_iff_mem.2 hm] at hb; cases hb
    have hbd:((m.length+([y]:List Int).length)*8≤140737488355328):=by simp only[List.length_cons,List.length_nil]; omega
    simp only[hb,Bool.false_eq_true,if_false,Bool.not_false,if_true,hbd,decide_true] at hrec3 ⊢
    rw[y0t (by have:=zh9 g.length m; omega),Option.bind_some,zzi hy hm]
    exact hrec3
 ·have k1:¬((i:Int)<(m.length:Int)):=by omega
  simp only[k1,decide_false,Bool.false_eq_true,if_false]
  rw[zn0 (by omega)]
def zft (n:Nat) (m:List Int):List Bool:=(ptsN n).map fun p=>m.contains p
theorem z9l (n:Nat) (m:List Int):(zft n m).length=n:=by simp[zft,ptsN]
theorem zq8 {n:Nat} {m:List Int} {q:Int} (hq:0≤q∧q<(n:Int)):rd (zft n m) q false=m.contains q:=by
 unfold rd zft ptsN
 have:q.toNat<n:=by omega
 simp[List.getD,this]
 rw[show max q 0=q by omega]
theorem zq9 {n:Nat} {m:List Int} {q:Int} (hq:0≤q∧q<(n:Int)):(zft n m).set q.toNat true=zft n (m++[q]):=by
 apply List.ext_getElem
 ·simp[z9l]
 ·intro i h1 h2
  rw[List.getElem_set]
  simp only[zft,ptsN,List.getElem_map,List.getElem_range]
  by_cases e:q.toNat=i
  ·have:(i:Int)=q:=by omega
   rw[if_pos e,this]; simp
  ·have:¬(i:Int)=q:=by omega
   rw[if_neg e]
   rw[Bool.eq_iff_iff,List.contains_iff_mem,List.contains_iff_mem,List.mem_append,List.mem_singleton]
   exact⟨Or.inl,fun h=>h.resolve_right this⟩
theorem zwk {n:Nat} {k:Int} (hk:0≤k∧k<(n:Int)):(List.replicate n false).set k.toNat true=zft n [k]:=by
 have e:List.replicate n false=zft n []:=by
  apply List.ext_getElem
  ·simp[z9l]
  ·intro i h1 h2; simp[zft]
 rw[e,zq9 hk,List.nil_append]
theorem zll {g:List (List Int)} (hg:GG g) (hq:∀ l∈g,l.length≤100) {k:Int} (hk:Pt g k):z7x g k=some ((lds g k,()),()):=by
 unfold z7x
 refine z0q 102 fun N hN=>?_
 unfold zbh
 have h40:=hg.le
 have hk2:0≤k∧k<(g.length:Int):=⟨hk.lo,hk.hi⟩
 have c0:(0:Int)≤(g.length:Int):=by omega
 have c1:((g.length:Int)==(g.length:Int))=true:=by simp
 have c2:(g.length:Int)*1≤140737488355328:=by omega
 have c3:k<((List.replicate (g.length:Int).toNat false).length:Int):=by simp; exact hk.hi
 simp only[c0,c1,c2,c3,hk.lo,decide_true,if_true]
 rw[Int.toNat_natCast,zwk hk2]
 refine z1o 45 (fun i (m:List Int)=>((g,()),(([]:List Int),zft g.length m,m.drop i,()))) (fun i m=>((risN g.length (zmg g i m),()),())) (fun i m=>InP g.length m∧i≤m.length)
  [k] rfl rfl ⟨zpy hk2,by simp⟩ (by omega) (fun rec i m hi h hrec=>?_)
 obtain⟨h,him⟩:=h
 have hlen:=h.len
 dsimp only
 have hdl:(m.drop i).length=m.length - i:=List.length_drop
 by_cases hil:i<m.length
 ·have hget:m[i]? = some m[i]:=List.getElem?_eq_getElem hil
  have hxp:=h.pts _ (List.getElem_mem hil)
  have hr:rd (m.drop i) (0:Int) (0:Int)=m[i]:=by
   rw[show (0:Int)=((0:Nat):Int) from rfl,z6v]; simp[List.getD,hget]
  have k1:((m.drop i).length:Int) > (0:Int):=by omega
  have k1':(0:Int)<((m.drop i).length:Int):=by omega
  simp only[k1,k1',hr,hxp.1,hxp.2,Int.le_refl,decide_true,if_true]
  rw[zmz (by omega) hget,zl1 hxp]
  have hol:∀ q∈outs g m[i],0≤q∧q<(g.length:Int):=fun q hq=>hg.outs hq
  have hob:(outs g m[i]).length≤100:=by
   unfold P.outs
   rw[List.getD_eq_getElem?_getD]
   cases hgx:g[m[i].toNat]? with
   | none=>simp
   | some l=>exact hq l (List.mem_of_getElem? hgx)
  generalize outs g m[i]=L at hol hob
  have hi45:i<45:=by omega
  refine z06 L (by rw[z03]; omega) (fun j (m:List Int)=>((g,L,(L.length:Int),(j:Int),()),(([]:List Int),zft g.length m,m.drop i,())))
   (fun j t m=>((risN g.length (zmg g (i+1) (zis m t)),()),())) (fun j t m=>InP g.length m∧i<m.length) m rfl rfl ⟨h,hil⟩ (by omega) (fun rec2 m h=>?_) (fun rec2 j y t m hat h hrec2=>?_)
  ·obtain⟨h,hil⟩:=h
   have hdl:(m.drop i).length=m.length - i:=List.length_drop
   have k5:(0:Int)≤((m.drop i).length:Int):=by omega
   have k6:(1:Int)≤((m.drop i).length:Int):=by omega
   dsimp only
   simp only[z00,decide_false,Bool.false_eq_true,if_false,k5,k6,Int.le_refl,decide_true,if_true,Int.toNat_natCast,List.take_length,show (0:Int)≤1 from by omega]
   have:=hrec hi45 m ⟨h,hil⟩
   rw[show (m.drop i).drop (1:Int).toNat=m.drop (i+1) by rw[List.drop_drop]; rfl]
   exact this
  ·obtain⟨h,hil⟩:=h
   have hy:=hol y hat.mem
   have hlen:=h.len
   have hdl:(m.drop i).length=m.length - i:=List.length_drop
   have k7:y<((zft g.length m).length:Int):=by rw[z9l]; exact hy.2
   dsimp only
   simp only[hat.lt,hat.nn,hat.rd,hat.wrap,hy.1,k7,zq8 hy,decide_true,if_true]
   have hadd:i<(addP m y).length:=by
    unfold addP; split
    ·exact hil
    ·simp; omega
   have hrec3:=hrec2 _ ⟨h.add hy,hadd⟩
   rw[zcd]
   unfold addP at hrec3 ⊢
   cases hb:m.contains y with
   | true=>
    simp only[hb,if_true,Bool.not_true,Bool.false_eq_true,if_false] at hrec3 ⊢
    exact hrec3
   | false=>
    have hbd:(((m.drop i).length+([y]:List Int).length)*8≤140737488355328):=by simp only[List.length_cons,List.length_nil]; omega
    simp only[hb,Bool.false_eq_true,if_false,Bool.not_false,if_true,hbd,decide_true] at hrec3 ⊢
    rw[zq9 hy,←List.drop_append_of_le_length (by omega)]
    exact hrec3
 ·have k1:¬((m.drop i).length:Int) > (0:Int):=by omega
  simp only[k1,decide_false,Bool.false_eq_true,if_false]
  rw[zn0 (by omega)]
  refine z06 (zft g.length m) (by rw[z03,z9l]; omega) (fun j (s:List Int)=>((((zft g.length m).length:Int),(j:Int),()),(([]:List Int),zft g.length m,m.drop i,s,())))
   (fun j t s=>((risN g.length m,()),())) (fun j t s=>s=(ptsN j).filter fun p=>m.contains p) [] rfl rfl (by simp[ptsN]) (by rw[z9l]; omega) (fun rec2 s hs=>?_) (fun rec2 j b t s hat hs hrec2=>?_)
  ·dsimp only
   simp only[z00,decide_false,Bool.false_eq_true,if_false]
   rw[hs,z9l]
   rfl
  ·have hjn:j<g.length:=by have:=hat.ltn; rw[z9l] at this; exact this
   have hb:b=m.contains (j:Int):=by
    have:=hat.rd false
    rw[zq8 ⟨by omega,by omega⟩] at this
    exact this.symm
   have hpt:ptsN (j+1)=ptsN j++[(j:Int)]:=by simp[ptsN,List.range_succ]
   have hsl:s.length≤j:=by
    rw[hs]
    have:=List.length_filter_le (fun p=>m.contains p) (ptsN j)
    have e:(ptsN j).length=j:=by simp[ptsN]
    omega
   dsimp only
   simp only[hat.lt,hat.nn,hat.rd,hat.wrap,decide_true,if_true]
   cases b with
   | true=>
    have hbd:((s.length+([(j:Int)]:List Int).length)*8≤140737488355328):=by simp only[List.length_cons,List.length_nil]; omega
    simp only[hbd,decide_true,if_true]
    refine hrec2 _ ?_
    rw[hpt,List.filter_append,←hs]
    simp only[List.filter_cons,←hb,if_true,List.filter_nil]
   | false=>
    simp only[Bool.false_eq_true,if_false]
    refine hrec2 _ ?_
    rw[hpt,List.filter_append,←hs]
    simp only[List.filter_cons,←hb,Bool.false_eq_true,if_false,List.filter_nil,List.append_nil]
theorem z84 (n:Nat):ptsN (n+1)=ptsN n++[(n:Int)]:=by simp[ptsN,List.range_succ]
theorem z5e (n:Nat):(ptsN n).length=n:=by simp[ptsN]
theorem zsx {g:List (List Int)} (hg:GG g) {k p:Int} (hk:Pt g k):(lds g k).contains p=(z3y g k).contains p:=by
 rw[Bool.eq_iff_iff,List.contains_iff_mem,List.contains_iff_mem]
 unfold lds
 rw[zd3]
 exact⟨fun h=>h.2,fun h=>⟨⟨(z6d hg hk h).lo,(z6d hg hk h).hi⟩,h⟩⟩
theorem zm1 {α:Type} {p q:α→Bool}:∀ {l:List α},(∀ x∈l,p x=q x)→l.filter p=l.filter q
 | [],_=>rfl
 | x::l,h=>by rw[List.filter_cons,List.filter_cons,h x (by simp),zm1 fun y hy=>h y (by simp[hy])]
theorem y2m {g:List (List Int)} (hg:GG g) {k:Int} (hk:Pt g k):(lds g k).filter (fun p=>(lds g p).contains k)=cls g k:=by
 unfold cls
 conv=>lhs; unfold lds risN
 rw[List.filter_filter]
 refine zm1 fun p hp=>?_
 have h:=zfl.1 hp
 rw[show (List.filter (fun p_1=>(z3y g p).contains p_1) (ptsN g.length))=lds g p from rfl,zsx hg ⟨h.1,h.2⟩,Bool.and_comm]
theorem zue {g:List (List Int)} (hg:GG g) {k:Int} (hk:Pt g k):0<(cls g k).length∧(rd (cls g k) (0:Int) (0:Int)==k)=((cls g k).head? == some k):=by
 obtain⟨a,r,e⟩:=IsC.ne hg ⟨k,hk,rfl⟩
 rw[e]
 refine⟨by simp,?_⟩
 rfl
theorem zsw {g:List (List Int)} {k p:Int} (h:p∈lds g k):0≤p∧p<(g.length:Int):=by
 unfold lds at h
 exact (zd3.1 h).1
theorem zrs {g:List (List Int)} {p:Int} (hp:0≤p∧p<(g.length:Int)):rd ((ptsN g.length).map (lds g)) p ([]:List Int)=lds g p:=by
 have:p.toNat<g.length:=by omega
 unfold rd ptsN
 simp[List.getD,this]
 rw[show max p 0=p by omega]
theorem zmk {g:List (List Int)} (hg:GG g) (hq:∀ l∈g,l.length≤100):z6l g=some ((grps g,()),()):=by
 unfold z6l
 refine z0q 102 fun N hN=>?_
 unfold z9p
 have h40:=hg.le
 refine z1o g.length (fun i (s:Unit)=>((g,(g.length:Int),(i:Int),()),(([]:List (List Int)),(ptsN i).map (lds g),()))) (fun i s=>((grps g,()),())) (fun i s=>True) () rfl rfl trivial (by omega) (fun rec i _ hi _ hrec=>?_)
 dsimp only
 by_cases hil:i<g.length
 ·have k1:(i:Int)<(g.length:Int):=by omega
  have hw:IntKind.i64.wrap ((i:Int)+1)=((i+1:Nat):Int):=by rw[z0b (by omega) (by omega)]; omega
  simp only[k1,decide_true,if_true]
  rw[zk8 hg hq ⟨by omega,k1⟩,Option.bind_some]
  have hbd:((((ptsN i).map (lds g)).length+([lds g (i:Int)]:List (List Int)).length)*24≤140737488355328):=by simp[z5e]; omega
  simp only[hbd,hw,decide_true,if_true]
  refine Eq.trans ?_ (hrec hil () trivial)
  rw[z84,List.map_append]; rfl
 ·have e:i=g.length:=by omega
  subst e
  simp only[z00,decide_false,Bool.false_eq_true,if_false]
  clear hrec
  have hal:((ptsN g.length).map (lds g)).length=g.length:=by simp[z5e]
  refine z1o g.length (fun j (s:List (List Int))=>(((g.length:Int),(j:Int),()),(([]:List (List Int)),(ptsN g.length).map (lds g),s,()))) (fun j s=>((grps g,()),()))
   (fun j s=>s=((ptsN j).filter fun k=>(cls g k).head? == some k).map (cls g)) [] rfl rfl (by simp[ptsN]) (by omega) (fun rec2 j s hj hs hrec2=>?_)
  dsimp only
  by_cases hjl:j<g.length
  ·have k1:(j:Int)<(g.length:Int):=by omega
   have k2:(0:Int)≤(j:Int):=by omega
   have hw:IntKind.i64.wrap ((j:Int)+1)=((j+1:Nat):Int):=by rw[z0b (by omega) (by omega)]; omega
   have hpt:Pt g (j:Int):=⟨k2,k1⟩
   simp only[k1,k2,hal,zrs ⟨k2,k1⟩,decide_true,if_true]
   have hl1:(lds g (j:Int)).length≤40:=by have:=zh9 g.length (z3y g (j:Int)); unfold lds; omega
   refine z06 (lds g (j:Int)) (by rw[z03]; omega) (fun i (s':List Int)=>(((j:Int),(g.length:Int),(j:Int),lds g (j:Int),((lds g (j:Int)).length:Int),(i:Int),()),(([]:List (List Int)),(ptsN g.length).map (lds g),s,s',())))
    (fun i t s'=>((grps g,()),())) (fun i t s'=>s'++t.filter (fun p=>(lds g p).contains (j:Int))=cls g (j:Int)∧s'.length≤i) [] rfl rfl ⟨by rw[List.nil_append]; exact y2m hg hpt,by simp⟩ (by omega) (fun rec3 s' h=>?_) (fun rec3 i p t s' hat h hrec3=>?_)
   ·obtain⟨h1,h2⟩:=h
    rw[List.filter_nil,List.append_nil] at h1
    subst h1
    obtain⟨c1,c2⟩:=zue hg hpt
    have c3:(0:Int)<((cls g (j:Int)).length:Int):=by omega
    have hsl:s.length≤j:=by
     rw[hs,List.length_map]
     have:=List.length_filter_le (fun k=>(cls g k).head? == some k) (ptsN j)
     rw[z5e] at this; exact this
    dsimp only
    simp only[z00,decide_false,Bool.false_eq_true,if_false,c3,c2,hw,Int.le_refl,decide_true,if_true]
    cases hb:((cls g (j:Int)).head? == some (j:Int)) with
    | true=>
     have hbd:((s.length+([cls g (j:Int)]:List (List Int)).length)*24≤140737488355328):=by simp only[List.length_cons,List.length_nil]; omega
     simp only[hbd,decide_true,if_true]
     refine hrec2 hjl _ ?_
     rw[z84,List.filter_append,List.map_append,←hs]
     simp only[List.filter_cons,hb,if_true,List.filter_nil,List.map_cons,List.map_nil]
    | false=>
     simp only[Bool.false_eq_true,if_false]
     refine hrec2 hjl _ ?_
     rw[z84,List.filter_append,List.map_append,←hs]
     simp only[List.filter_cons,hb,Bool.false_eq_true,if_false,List.filter_nil,List.map_nil,List.append_nil]
   ·obtain⟨h1,h2⟩:=h
    have hp:=zsw hat.mem
    have hil:=hat.ltn
    dsimp only
    simp only[hat.lt,hat.nn,hat.rd,hat.wrap,hp.1,hp.2,hal,zrs hp,decide_true,if_true]
    rw[zck _ _ (by rw[z03]; have:=zh9 g.length (z3y g p); unfold lds; omega),Option.bind_some]
    rw[List.filter_cons] at h1
    dsimp only
    cases hb:(lds g p).contains (j:Int) with
    | true=>
     have hbd:((s'.length+([p]:List Int).length)*8≤140737488355328):=by simp only[List.length_cons,List.length_nil]; omega
     rw[hb] at h1
     simp only[hbd,decide_true,if_true] at h1 ⊢
     exact hrec3 _ ⟨by rw[List.append_assoc]; exact h1,by simp; omega⟩
    | false=>
     rw[hb] at h1
     simp only[Bool.false_eq_true,if_false] at h1 ⊢
     exact hrec3 _ ⟨h1,by omega⟩
  ·have e:j=g.length:=by omega
   subst e
   simp only[z00,decide_false,Bool.false_eq_true,if_false]
   rw[hs]; rfl
def zc8 {β:Type} (f:Nat→β→Bool):Nat→List β→Bool
 | _,[]=>true
 | i,o::r=>f i o&&zc8 f (i+1) r
theorem ziq {β:Type} {f:Nat→β→Bool}:∀ {l:List β} {i:Nat},zc8 f i l=true↔∀ j o,l[j]? = some o→f (i+j) o=true
 | [],i=>by simp[zc8]
 | x::l,i=>by
  unfold zc8
  rw[Bool.and_eq_true,ziq (l:=l)]
  constructor
  ·rintro⟨h1,h2⟩ j o hj
   cases j with
   | zero=>simp at hj; subst hj; exact h1
   | succ j=>have:=h2 j o (by simpa using hj); rw[show i+(j+1)=i+1+j by omega]; exact this
  ·intro h
   exact⟨h 0 x rfl,fun j o hj=>by have:=h (j+1) o (by simpa using hj); rw[show i+(j+1)=i+1+j by omega] at this; exact this⟩
def zmr (g:List (List Int)) (k:Nat) (p:Int) (i:Nat) (o:List Int):Bool:=o.all fun n=>((i:Int)==(k:Int))||!(outs g p).contains n
theorem zxv {g:List (List Int)} (hg:GG g) {L:List (List Int)} (hL:Left g L) {k:Nat} {c:List Int} (hk:L[k]? = some c):(c.all fun p=>zc8 (zmr g k p) 0 L)=zcc g L c:=by
 rw[Bool.eq_iff_iff,zr8 hg hL (List.mem_of_getElem? hk),List.all_eq_true]
 constructor
 ·intro h p hp o ho hne q hq hqo
  obtain⟨j,hj⟩:=List.getElem?_of_mem ho
  have:=ziq.1 (h p hp) j o hj
  unfold zmr at this
  rw[List.all_eq_true] at this
  have:=this q hq
  simp only[Nat.zero_add,Bool.or_eq_true,beq_iff_eq,Bool.not_eq_true'] at this
  rcases this with h1 | h1
  ·have:j=k:=by omega
   subst this
   rw[hj] at hk
   exact hne (Option.some.inj hk)
  ·rw[List.contains_iff_mem.2 hqo] at h1; cases h1
 ·intro h p hp
  refine ziq.2 fun j o hj=>?_
  unfold zmr
  rw[List.all_eq_true]
  intro q hq
  simp only[Nat.zero_add,Bool.or_eq_true,beq_iff_eq,Bool.not_eq_true']
  by_cases e:j=k
  ·exact .inl (by omega)
  ·right
   have hne:o≠c:=by
    intro ho
    subst ho
    have hjl:=(List.getElem?_eq_some_iff.1 hj).1
    have hkl:=(List.getElem?_eq_some_iff.1 hk).1
    have h1:=(List.getElem?_eq_some_iff.1 hj).2
    have h2:=(List.getElem?_eq_some_iff.1 hk).2
    exact e ((List.getElem_inj hL.nd).1 (h1.trans h2.symm))
   cases hb:(outs g p).contains q with
   | false=>rfl
   | true=>exact (h p hp o (List.mem_of_getElem? hj) hne q hq (List.contains_iff_mem.1 hb)).elim
theorem znk {α:Type} {p:α→Bool}:∀ {l:List α} {k:Nat} {c:α},l[k]? = some c→p c=true→(∀ j d,j<k→l[j]? = some d→p d=false)→l.findIdx? p=some k
 | [],k,c,h,_,_=>by simp at h
 | x::l,0,c,h,hp,_=>by
  simp at h; subst h
  simp[List.findIdx?_cons,hp]
 | x::l,k+1,c,h,hp,hn=>by
  have hx:=hn 0 x (by omega) rfl
  rw[List.findIdx?_cons,hx]
  simp only[Bool.false_eq_true,if_false]
  rw[znk (by simpa using h) hp fun j d hj hd=>hn (j+1) d (by omega) (by simpa using hd)]
  rfl
theorem znn {g:List (List Int)} {L:List (List Int)} {k:Nat} {c:List Int} (h:L[k]? = some c) (hf:zcc g L c=true) (hn:∀ j d,j<k→L[j]? = some d→zcc g L d=false):za9 g L.length L=c::za9 g (L.eraseIdx k).length (L.eraseIdx k):=by
 have hk:=(List.getElem?_eq_some_iff.1 h).1
 have hl:L.length=(L.eraseIdx k).length+1:=by rw[List.length_eraseIdx_of_lt hk]; omega
 rw[hl]
 conv=>lhs; unfold za9
 rw[znk h hf hn]
 simp only[List.getD,h,Option.getD_some]
theorem y2l (g:List (List Int)) (k:Int):(cls g k).length≤g.length:=by
 have:=List.length_filter_le (fun p=>(z3y g k).contains p&&(z3y g p).contains k) (ptsN g.length)
 rw[z5e] at this; exact this
theorem zp1 (g:List (List Int)):(grps g).length≤g.length:=by
 unfold grps
 rw[List.length_map]
 have:=List.length_filter_le (fun k=>(cls g k).head? == some k) (ptsN g.length)
 rw[z5e] at this; exact this
theorem IsC.len {g:List (List Int)} {c:List Int} (h:IsC g c):c.length≤g.length:=by obtain⟨k,_,rfl⟩:=h; exact y2l g k
theorem zzl {g:List (List Int)} (hq:∀ l∈g,l.length≤100) (p:Int):(outs g p).length≤100:=by
 unfold P.outs
 rw[List.getD_eq_getElem?_getD]
 cases hgx:g[p.toNat]? with
 | none=>simp
 | some l=>exact hq l (List.mem_of_getElem? hgx)
theorem zh4 {g:List (List Int)} (hg:GG g) (hq:∀ l∈g,l.length≤100):z3j g=some ((zms g,()),()):=by
 unfold z3j
 refine z0q 102 fun N hN=>?_
 unfold z5p
 have h40:=hg.le
 rw[zmk hg hq,Option.bind_some]
 have hgl:=zp1 g
 dsimp only
 refine z1o 42 (fun i (s:List (List Int)×List (List Int))=>((g,s.1,()),(([]:List (List Int)),s.2,()))) (fun i s=>((s.2++za9 g s.1.length s.1,()),())) (fun i s=>Left g s.1∧s.1.length+i≤40∧s.2.length≤i)
  (grps g,[]) rfl rfl ⟨zcb hg,by dsimp only; omega,by simp⟩ (by omega) (fun rec i s hi h hrec=>?_)
 obtain⟨L,out⟩:=s
 obtain⟨hL,hLl,hol⟩:=h
 dsimp only at hL hLl hol ⊢
 by_cases hne:L=[]
 ·subst hne
  have k1:¬((([]:List (List Int)).length:Int) > (0:Int)):=by simp
  simp only[k1,decide_false,Bool.false_eq_true,if_false]
  simp[za9]
 have hpos:0<L.length:=List.length_pos_iff.2 hne
 have k1:(L.length:Int) > (0:Int):=by omega
 simp only[k1,decide_true,if_true]
 have hi42:i<42:=by omega
 refine z06 L (by rw[z03]; omega) (fun k (s:Unit)=>((g,L,L,(L.length:Int),(k:Int),()),(([]:List (List Int)),out,()))) (fun k t s=>((out++za9 g L.length L,()),()))
  (fun k t s=>∀ j d,j<k→L[j]? = some d→zcc g L d=false) () rfl rfl (by omega) (by omega) (fun rec2 _ h=>?_) (fun rec2 k c t _ hat h hrec2=>?_)
 ·exfalso
  obtain⟨c,hc,hf⟩:=hL.free hg hne
  obtain⟨j,hj⟩:=List.getElem?_of_mem hc
  rw[h j c (List.getElem?_eq_some_iff.1 hj).1 hj] at hf; cases hf
 ·have hcL:=hat.mem
  have hisc:=hL.isc c hcL
  have hcl:=hisc.len
  dsimp only
  simp only[hat.lt,hat.nn,hat.rd,decide_true,if_true]
  have hfr:=zxv hg hL hat.get
  have hkl:=hat.ltn
  refine z06 c (by rw[z03]; omega) (fun a (s:Bool)=>((g,L,(k:Int),c,s,L,(L.length:Int),(k:Int),c,(c.length:Int),(a:Int),()),(([]:List (List Int)),out,()))) (fun a t s=>((out++za9 g L.length L,()),()))
   (fun a t s=>(s&&t.all fun p=>zc8 (zmr g k p) 0 L)=zcc g L c) true rfl rfl (by rw[Bool.true_and]; exact hfr) (by omega) (fun rec3 s hs=>?_) (fun rec3 a p t3 s hat3 hs hrec3=>?_)
  ·dsimp only
   rw[List.all_nil,Bool.and_true] at hs
   subst hs
   have hw:IntKind.i64.wrap ((k:Int)+1)=((k+1:Nat):Int):=hat.wrap
   simp only[z00,decide_false,Bool.false_eq_true,if_false,hw]
   cases hb:zcc g L c with
   | false=>
    simp only[Bool.false_eq_true,if_false]
    refine hrec2 () fun j d hj hd=>?_
    by_cases e:j=k
    ·subst e
     rw[hat.get] at hd
     obtain rfl:=Option.some.inj hd
     exact hb
    ·exact h j d (by omega) hd
   | true=>
    have b1:((out.length+([c]:List (List Int)).length)*24≤140737488355328):=by simp only[List.length_cons,List.length_nil]; omega
    have b2:(0:Int)≤(k:Int):=by omega
    have b3:(k:Int)≤(L.length:Int):=by omega
    have b4:((([]:List (List Int)).length+((L.take (k:Int).toNat).drop (0:Int).toNat).length)*24≤140737488355328):=by simp; omega
    have b5:(0:Int)≤(L.length:Int):=by omega
    have b6:(0:Int)≤((k+1:Nat):Int):=by omega
    have b7:((k+1:Nat):Int)≤(L.length:Int):=by omega
    have b8:(((([]:List (List Int))++((L.take (k:Int).toNat).drop (0:Int).toNat)).length+((L.take (L.length:Int).toNat).drop ((k+1:Nat):Int).toNat).length)*24≤140737488355328):=by simp; omega
    simp only[b1,b2,b3,b4,b5,b6,b7,b8,Int.le_refl,decide_true,if_true]
    have he:((([]:List (List Int))++((L.take (k:Int).toNat).drop (0:Int).toNat))++((L.take (L.length:Int).toNat).drop ((k+1:Nat):Int).toNat))=L.eraseIdx k:=by
     rw[List.eraseIdx_eq_take_drop_succ]
     simp only[Int.toNat_natCast,List.take_length,List.nil_append,Int.toNat_zero,List.drop_zero]
    rw[he]
    have hel:(L.eraseIdx k).length+1=L.length:=by rw[List.length_eraseIdx_of_lt hkl]; omega
    refine (hrec hi42 (L.eraseIdx k,out++[c]) ⟨hL.erase hg hat.get hb,by dsimp only; omega,by simp; omega⟩).trans ?_
    dsimp only
    rw[znn hat.get hb h,List.append_assoc]
    rfl
  ·have hpc:=hisc.eq hg hat3.mem
   dsimp only
   simp only[hat3.lt,hat3.nn,hat3.rd,decide_true,if_true]
   rw[List.all_cons,←Bool.and_assoc] at hs
   refine z06 L (by rw[z03]; omega) (fun b (s:Bool)=>((g,L,(k:Int),c,s,p,L,(L.length:Int),(k:Int),c,(c.length:Int),(a:Int),L,(L.length:Int),(b:Int),()),(([]:List (List Int)),out,()))) (fun b t s=>((out++za9 g L.length L,()),()))
    (fun b t s=>((s&&zc8 (zmr g k p) b t)&&t3.all fun p=>zc8 (zmr g k p) 0 L)=zcc g L c) s rfl rfl hs (by omega) (fun rec4 s hs=>?_) (fun rec4 b o t4 s hat4 hs hrec4=>?_)
   ·dsimp only
    simp only[z00,decide_false,Bool.false_eq_true,if_false,hat3.wrap]
    refine hrec3 s ?_
    simpa[zc8] using hs
   ·have hol4:=(hL.isc o hat4.mem).len
    dsimp only
    simp only[hat4.lt,hat4.nn,hat4.rd,decide_true,if_true]
    rw[show zc8 (zmr g k p) b (o::t4)=((o.all fun n=>((b:Int)==(k:Int))||!(outs g p).contains n)&&zc8 (zmr g k p) (b+1) t4) from rfl,←Bool.and_assoc] at hs
    refine z06 o (by rw[z03]; omega) (fun e (s:Bool)=>((g,L,(k:Int),c,s,p,(b:Int),L,(L.length:Int),(k:Int),c,(c.length:Int),(a:Int),L,(L.length:Int),(b:Int),o,(o.length:Int),(e:Int),()),(([]:List (List Int)),out,()))) (fun e t s=>((out++za9 g L.length L,()),()))
     (fun e t s=>(((s&&t.all fun n=>((b:Int)==(k:Int))||!(outs g p).contains n)&&zc8 (zmr g k p) (b+1) t4)&&t3.all fun p=>zc8 (zmr g k p) 0 L)=zcc g L c) s rfl rfl hs (by omega) (fun rec5 s hs=>?_) (fun rec5 e n t5 s hat5 hs hrec5=>?_)
    ·dsimp only
     simp only[z00,decide_false,Bool.false_eq_true,if_false,hat4.wrap]
     refine hrec4 s ?_
     simpa using hs
    ·rw[List.all_cons,←Bool.and_assoc] at hs
     have q1:=hpc.1.lo
     have q2:=hpc.1.hi
     dsimp only
     simp only[hat5.lt,hat5.nn,hat5.rd,hat5.wrap,q1,q2,decide_true,if_true]
     cases s with
     | false=>
      simp only[Bool.false_eq_true,if_false]
      refine hrec5 false ?_
      simpa using hs
     | true=>
      simp only[if_true]
      rw[zl1 ⟨q1,q2⟩,zck _ _ (by rw[z03]; have:=zzl hq p; omega),Option.bind_some]
      cases hbk:((b:Int)==(k:Int)) with
      | true=>
       simp only[if_true]
       refine hrec5 true ?_
       simpa only[hbk,Bool.true_or,Bool.and_true,Bool.true_and] using hs
      | false=>
       simp only[Bool.false_eq_true,if_false]
       refine hrec5 _ ?_
       simpa only[hbk,Bool.false_or,Bool.true_and] using hs
theorem zfm {β:Type} {q:β→Bool}:∀ {l:List β} {i:Int},(∃ x∈l,q x=true)→∃ (k:Nat) (c:β),l[k]? = some c∧q c=true∧(∀ j d,j<k→l[j]? = some d→q d=false)∧idxI q l i=i+(k:Int)
 | [],_,h=>by obtain⟨x,hx,_⟩:=h; simp at hx
 | x::l,i,h=>by
  cases hb:q x with
  | true=>exact⟨0,x,rfl,hb,fun j d hj=>by omega,by simp[idxI,hb]⟩
  | false=>
   obtain⟨k,c,h1,h2,h3,h4⟩:=zfm (l:=l) (i:=i+1) (by
    obtain⟨y,hy,hq⟩:=h
    rcases List.mem_cons.1 hy with rfl | hy
    ·rw[hb] at hq; cases hq
    ·exact⟨y,hy,hq⟩)
   refine⟨k+1,c,by simpa using h1,h2,fun j d hj hd=>?_,?_⟩
   ·cases j with
    | zero=>simp at hd; subst hd; exact hb
    | succ j=>exact h3 j d (by omega) (by simpa using hd)
   ·simp only[idxI,hb,Bool.false_eq_true,if_false,h4]; omega
theorem zmd {α:Type}:∀ l:List α,zfd (l.map some)=some l
 | []=>rfl
 | x::l=>by simp[zfd,zmd l]
theorem znh {α:Type}:∀ (l:List α) (k:Nat),((l.map some).set k none).eraseIdx k=(l.eraseIdx k).map some
 | [],k=>by simp
 | x::l,0=>by simp
 | x::l,k+1=>by simp[znh l k]
theorem y2e {α:Type} {l:List α} {k:Nat} (hk:k<l.length):holD ((l.map some).set k none) (k:Int) ((k+1:Nat):Int)=some (l.eraseIdx k):=by
 unfold holD
 have h1:(decide ((0:Int)≤(k:Int))&&(decide ((k:Int)<(((l.map some).set k none).length:Int))&&decide (((k+1:Nat):Int)=(k:Int)+1)))=true:=by
  simp; omega
 rw[if_pos h1,Int.toNat_natCast,znh,zmd]
def zf7 (n:Nat) (L:List (List Int)):List Bool:=(ptsN n).map fun p=>!(L.any fun o=>o.contains p)
theorem zf5 (n:Nat) (L:List (List Int)):(zf7 n L).length=n:=by simp[zf7,ptsN]
theorem zf6 {n:Nat} {L:List (List Int)} {q:Int} (hq:0≤q∧q<(n:Int)):rd (zf7 n L) q false=!(L.any fun o=>o.contains q):=by
 unfold rd zf7 ptsN
 have:q.toNat<n:=by omega
 simp[List.getD,this]
 rw[show max q 0=q by omega]
theorem zr6 {n:Nat}:∀ (c:List Int) (b:List Bool),b.length=n→(∀ p∈c,0≤p∧p<(n:Int))→(c.foldl (fun b p=>b.set p.toNat true) b).length=n∧∀ q:Int,0≤q→q<(n:Int)→rd (c.foldl (fun b p=>b.set p.toNat true) b) q false=(c.contains q||rd b q false)
 | [],b,hb,_=>⟨hb,fun q _ _=>by simp⟩
 | p::c,b,hb,hc=>by
  have hp:=hc p (by simp)
  obtain⟨h1,h2⟩:=zr6 c (b.set p.toNat true) (by simpa using hb) fun q hq=>hc q (by simp[hq])
  refine⟨h1,fun q q0 q1=>?_⟩
  rw[List.foldl_cons,h2 q q0 q1,List.contains_cons]
  have:rd (b.set p.toNat true) q false=((q==p)||rd b q false):=by
   unfold rd
   have hlt:q.toNat<b.length:=by omega
   by_cases e:q=p
   ·subst e
    simp[List.getD,hlt]
   ·have hne:¬p.toNat=q.toNat:=by omega
    have:(q==p)=false:=by simpa using e
    rw[this,Bool.false_or]
    simp[List.getD,List.getElem?_set_ne hne]
  rw[this]
  cases c.contains q<;>cases (q==p)<;>cases rd b q false<;>rfl
theorem zug {n:Nat} {a b:List Bool} (ha:a.length=n) (hb:b.length=n) (h:∀ q:Int,0≤q→q<(n:Int)→rd a q false=rd b q false):a=b:=by
 apply List.ext_getElem (by omega)
 intro i h1 h2
 have:=h (i:Int) (by omega) (by omega)
 rw[z6v,z6v] at this
 simpa[List.getD,List.getElem?_eq_getElem h1,List.getElem?_eq_getElem h2] using this
theorem zt6 {g:List (List Int)} (hg:GG g) {L:List (List Int)} (hL:Left g L) {k:Nat} {c:List Int} (hk:L[k]? = some c):c.foldl (fun b p=>b.set p.toNat true) (zf7 g.length L)=zf7 g.length (L.eraseIdx k):=by
 have hcL:=List.mem_of_getElem? hk
 have hpts:∀ p∈c,0≤p∧p<(g.length:Int):=fun p hp=>by have:=((hL.isc c hcL).eq hg hp).1; exact⟨this.lo,this.hi⟩
 obtain⟨h1,h2⟩:=zr6 c (zf7 g.length L) (zf5 _ _) hpts
 refine zug h1 (zf5 _ _) fun q q0 q1=>?_
 rw[h2 q q0 q1,zf6 ⟨q0,q1⟩,zf6 ⟨q0,q1⟩]
 rw[Bool.eq_iff_iff]
 simp only[Bool.or_eq_true,Bool.not_eq_true',List.any_eq_false,List.contains_iff_mem]
 have hm:∀ {x},x∈L.eraseIdx k↔x∈L∧x≠c:=zet hL.nd hk
 constructor
 ·rintro (h | h)
  ·intro o ho hqo
   obtain⟨ho1,ho2⟩:=hm.1 ho
   exact ho2 (hL.same hg ho1 hcL hqo h)
  ·intro o ho
   exact h o (hm.1 ho).1
 ·intro h
  by_cases hq:q∈c
  ·exact .inl hq
  ·right
   intro o ho hqo
   by_cases e:o=c
   ·exact hq (e▸hqo)
   ·exact h o (hm.2 ⟨ho,e⟩) hqo
theorem zv9 {g:List (List Int)} (hg:GG g) {L:List (List Int)} (hL:Left g L) {c:List Int} (hc:c∈L) {a:Int} (ha:a∈c):(!((lds g a).any fun p=>!rd (zf7 g.length L) p false&&!c.contains p))=zcc g L c:=by
 have hpt:=((hL.isc c hc).eq hg ha).1
 rw[Bool.eq_iff_iff,zlx hg hL hc ha]
 simp only[Bool.not_eq_true',List.any_eq_false,Bool.and_eq_true,not_and,Bool.not_eq_false']
 constructor
 ·intro h q hq
  have hqp:=z6d hg hpt hq
  have hql:q∈lds g a:=by unfold lds; exact zd3.2 ⟨⟨hqp.lo,hqp.hi⟩,hq⟩
  have:=h q hql
  rw[zf6 ⟨hqp.lo,hqp.hi⟩] at this
  by_cases hqc:q∈c
  ·exact .inl hqc
  ·right
   intro o ho hqo
   have h1:(L.any fun o=>o.contains q)=true:=List.any_eq_true.2 ⟨o,ho,List.contains_iff_mem.2 hqo⟩
   rw[h1] at this
   have:=this rfl
   have h2:c.contains q=false:=by
    cases hb:c.contains q with
    | false=>rfl
    | true=>exact absurd (List.contains_iff_mem.1 hb) hqc
   rw[h2] at this
   exact this rfl
 ·intro h p hp h1 h2
  have hpr:=zsw hp
  have hpl:p∈z3y g a:=by unfold lds at hp; exact (zd3.1 hp).2
  rw[zf6 hpr,Bool.not_eq_false'] at h1
  obtain⟨o,ho,hpo⟩:=List.any_eq_true.1 h1
  rcases h p hpl with h3 | h3
  ·rw[List.contains_iff_mem.2 h3] at h2; cases h2
  ·exact h3 o ho (List.contains_iff_mem.1 hpo)
theorem zt5 {g:List (List Int)} (hg:GG g):List.replicate g.length false=zf7 g.length (grps g):=by
 refine zug (by simp) (zf5 _ _) fun q q0 q1=>?_
 rw[zf6 ⟨q0,q1⟩]
 have hpt:Pt g q:=⟨q0,q1⟩
 have h1:((grps g).any fun o=>o.contains q)=true:=by
  cases hb:((grps g).any fun o=>o.contains q) with
  | true=>rfl
  | false=>
   exfalso
   rw[List.any_eq_false] at hb
   have:=(zcb hg).cl q hpt (fun e he hqe=>hb e he (List.contains_iff_mem.2 hqe))
   obtain⟨a,r,e⟩:=IsC.ne hg ⟨q,hpt,rfl⟩
   have ha:a∈cls g q:=by rw[e]; simp
   have hap:=z6d hg hpt ((zgj hg hpt).1 ha).1
   have hca:=zym hg hpt ha
   refine hb (cls g q) ?_ (List.contains_iff_mem.2 (zpc hg hpt))
   refine List.mem_map.2 ⟨a,List.mem_filter.2 ⟨hap.mem,?_⟩,hca⟩
   rw[hca,e]
   simp
 rw[h1]
 unfold rd
 simp[List.getD]
 have:q.toNat<g.length:=by omega
 simp[this]
theorem zhv {g:List (List Int)} (hg:GG g) (hq:∀ l∈g,l.length≤100):z4v g=some ((zms g,()),()):=by
 unfold z4v
 refine z0q 102 fun N hN=>?_
 unfold z78
 have h40:=hg.le
 refine z1o g.length (fun i (s:Unit)=>((g,(g.length:Int),(i:Int),()),(([]:List (List Int)),(ptsN i).map (lds g),(()),()))) (fun i s=>((zms g,()),())) (fun i s=>True) () rfl rfl trivial (by omega) (fun rec i _ hi _ hrec=>?_)
 dsimp only
 by_cases hil:i<g.length
 ·have k1:(i:Int)<(g.length:Int):=by omega
  have hw:IntKind.i64.wrap ((i:Int)+1)=((i+1:Nat):Int):=by rw[z0b (by omega) (by omega)]; omega
  simp only[k1,decide_true,if_true]
  rw[zll hg hq ⟨by omega,k1⟩,Option.bind_some]
  have hbd:((((ptsN i).map (lds g)).length+([lds g (i:Int)]:List (List Int)).length)*24≤140737488355328):=by simp[z5e]; omega
  simp only[hbd,hw,decide_true,if_true]
  refine Eq.trans ?_ (hrec hil () trivial)
  rw[z84,List.map_append]; rfl
 ·have e:i=g.length:=by omega
  subst e
  have c0:(0:Int)≤(g.length:Int):=by omega
  have c1:((g.length:Int)==(g.length:Int))=true:=by simp
  have c2:(g.length:Int)*1≤140737488355328:=by omega
  simp only[z00,decide_false,Bool.false_eq_true,if_false,c0,c1,c2,decide_true,if_true]
  clear hrec
  have hal:((ptsN g.length).map (lds g)).length=g.length:=by simp[z5e]
  rw[Int.toNat_natCast,zt5 hg]
  refine z1o g.length (fun j (s:List (List Int))=>((g,(g.length:Int),(j:Int),()),(([]:List (List Int)),(ptsN g.length).map (lds g),(()),s,zf7 g.length (grps g),(()),()))) (fun j s=>((zms g,()),()))
   (fun j s=>s=((ptsN j).filter fun k=>(cls g k).head? == some k).map (cls g)) [] rfl rfl (by simp[ptsN]) (by omega) (fun rec2 j s hj hs hrec2=>?_)
  dsimp only
  by_cases hjl:j<g.length
  ·have k1:(j:Int)<(g.length:Int):=by omega
   have k2:(0:Int)≤(j:Int):=by omega
   have hw:IntKind.i64.wrap ((j:Int)+1)=((j+1:Nat):Int):=by rw[z0b (by omega) (by omega)]; omega
   have hpt:Pt g (j:Int):=⟨k2,k1⟩
   simp only[k1,decide_true,if_true]
   have hl1:∀ p,(lds g p).length≤maxLen:=fun p=>by rw[z03]; have:=zh9 g.length (z3y g p); unfold lds; omega
   refine z1o g.length (fun i (s':List Int)=>((g,(j:Int),(g.length:Int),(j:Int),(g.length:Int),(i:Int),()),(([]:List (List Int)),(ptsN g.length).map (lds g),(()),s,zf7 g.length (grps g),(()),s',())))
    (fun i s'=>((zms g,()),())) (fun i s'=>s'=(ptsN i).filter (fun p=>(z3y g (j:Int)).contains p&&(z3y g p).contains (j:Int))) [] rfl rfl (by simp[ptsN]) (by omega) (fun rec3 i s' hi3 h hrec3=>?_)
   dsimp only
   by_cases hil:i<g.length
   ·have q1:(i:Int)<(g.length:Int):=by omega
    have q2:(0:Int)≤(i:Int):=by omega
    have hw3:IntKind.i64.wrap ((i:Int)+1)=((i+1:Nat):Int):=by rw[z0b (by omega) (by omega)]; omega
    have hsl:s'.length≤i:=by
     rw[h]
     have:=List.length_filter_le (fun p=>(z3y g (j:Int)).contains p&&(z3y g p).contains (j:Int)) (ptsN i)
     rw[z5e] at this; exact this
    have hrec4:=hrec3 hil
    rw[z84,List.filter_append,←h] at hrec4
    simp only[q1,q2,k1,k2,hal,zrs ⟨k2,k1⟩,zrs ⟨q2,q1⟩,zdy (hl1 _),Option.bind_some,hw3,zsx hg hpt,zsx hg ⟨q2,q1⟩,decide_true,if_true]
    simp only[List.filter_cons,List.filter_nil] at hrec4
    cases b1:(z3y g (j:Int)).contains (i:Int) with
    | false=>
     simp only[b1,Bool.false_and,Bool.false_eq_true,if_false,List.append_nil] at hrec4 ⊢
     exact hrec4 s' rfl
    | true=>
     cases b2:(z3y g (i:Int)).contains (j:Int) with
     | false=>
      simp only[b1,b2,Bool.and_false,Bool.false_eq_true,if_false,List.append_nil,if_true] at hrec4 ⊢
      exact hrec4 s' rfl
     | true=>
      have hbd:((s'.length+([(i:Int)]:List Int).length)*8≤140737488355328):=by simp only[List.length_cons,List.length_nil]; omega
      simp only[b1,b2,Bool.and_self,if_true,hbd,decide_true] at hrec4 ⊢
      exact hrec4 _ rfl
   ·have e:i=g.length:=by omega
    subst e
    have h1:s'=cls g (j:Int):=h
    subst h1
    obtain⟨c1,c2⟩:=zue hg hpt
    have c3:(0:Int)<((cls g (j:Int)).length:Int):=by omega
    have hsl:s.length≤j:=by
     rw[hs,List.length_map]
     have:=List.length_filter_le (fun k=>(cls g k).head? == some k) (ptsN j)
     rw[z5e] at this; exact this
    simp only[z00,decide_false,Bool.false_eq_true,if_false,c3,c2,hw,Int.le_refl,decide_true,if_true]
    cases hb:((cls g (j:Int)).head? == some (j:Int)) with
    | true=>
     have hbd:((s.length+([cls g (j:Int)]:List (List Int)).length)*24≤140737488355328):=by simp only[List.length_cons,List.length_nil]; omega
     simp only[hbd,decide_true,if_true]
     refine hrec2 hjl _ ?_
     rw[z84,List.filter_append,List.map_append,←hs]
     simp only[List.filter_cons,hb,if_true,List.filter_nil,List.map_cons,List.map_nil]
    | false=>
     simp only[Bool.false_eq_true,if_false]
     refine hrec2 hjl _ ?_
     rw[z84,List.filter_append,List.map_append,←hs]
     simp only[List.filter_cons,hb,Bool.false_eq_true,if_false,List.filter_nil,List.map_nil,List.append_nil]
  ·have e:j=g.length:=by omega
   subst e
   simp only[z00,decide_false,Bool.false_eq_true,if_false]
   clear hrec2
   have hs2:s=grps g:=hs
   subst hs2
   have hgl:=zp1 g
   refine z1o 42 (fun i (s:List (List Int)×List (List Int))=>((()),(([]:List (List Int)),(ptsN g.length).map (lds g),(()),s.1,zf7 g.length s.1,(()),s.2,()))) (fun i s=>((s.2++za9 g s.1.length s.1,()),())) (fun i s=>Left g s.1∧s.1.length+i≤40∧s.2.length≤i)
    (grps g,[]) rfl rfl ⟨zcb hg,by dsimp only; omega,by simp⟩ (by omega) (fun rec i s hi h hrec=>?_)
   obtain⟨L,out⟩:=s
   obtain⟨hL,hLl,hol⟩:=h
   dsimp only at hL hLl hol ⊢
   by_cases hne:L=[]
   ·subst hne
    have k1:¬((([]:List (List Int)).length:Int) > (0:Int)):=by simp
    simp only[k1,decide_false,Bool.false_eq_true,if_false]
    simp[za9]
   have hpos:0<L.length:=List.length_pos_iff.2 hne
   have k1:(L.length:Int) > (0:Int):=by omega
   simp only[k1,decide_true,if_true]
   have hi42:i<42:=by omega
   have hl1:∀ p,(lds g p).length≤maxLen:=fun p=>by rw[z03]; have:=zh9 g.length (z3y g p); unfold lds; omega
   rw[zaw (zcc g L) (by rw[z03]; omega) fun c hc=>?_,Option.bind_some]
   ·obtain⟨k,c,h1,h2,h3,h4⟩:=zfm (q:=zcc g L) (l:=L) (i:=0) (hL.free hg hne)
    have hkl:=(List.getElem?_eq_some_iff.1 h1).1
    have hisc:=hL.isc c (List.mem_of_getElem? h1)
    have hcl:=hisc.len
    dsimp only
    rw[h4,Int.zero_add]
    have m1:(0:Int)≤(k:Int):=by omega
    have m2:(k:Int)<(L.length:Int):=by omega
    have m3:rd L (k:Int) ([]:List Int)=c:=by rw[z6v]; simp[List.getD,h1]
    simp only[m1,m2,m3,decide_true,if_true]
    refine z06 c (by rw[z03]; omega) (fun a (b:List Bool)=>(((k:Int),c,(c.length:Int),(a:Int),()),(([]:List (List Int)),(ptsN g.length).map (lds g),(()),L,b,(()),out,()))) (fun a t b=>((out++za9 g L.length L,()),()))
     (fun a t b=>b.length=g.length∧t.foldl (fun b p=>b.set p.toNat true) b=zf7 g.length (L.eraseIdx k)) (zf7 g.length L) rfl rfl ⟨zf5 _ _,zt6 hg hL h1⟩ (by omega) (fun rec3 b h=>?_) (fun rec3 a p t b hat h hrec3=>?_)
    ·obtain⟨_,hb⟩:=h
     rw[List.foldl_nil] at hb
     subst hb
     dsimp only
     have hw:IntKind.i64.wrap ((k:Int)+1)=((k+1:Nat):Int):=by rw[z0b (by omega) (by omega)]; omega
     have hy:(L.map some).getD (k:Int).toNat none=some c:=by
      rw[Int.toNat_natCast]; simp[List.getD,h1]
     have b1:((out.length+([c]:List (List Int)).length)*24≤140737488355328):=by simp only[List.length_cons,List.length_nil]; omega
     simp only[z00,decide_false,Bool.false_eq_true,if_false,m1,m2,hy,Option.bind_some,b1,hw,decide_true,if_true]
     rw[Int.toNat_natCast,y2e hkl,Option.bind_some]
     have hel:(L.eraseIdx k).length+1=L.length:=by rw[List.length_eraseIdx_of_lt hkl]; omega
     refine (hrec hi42 (L.eraseIdx k,out++[c]) ⟨hL.erase hg h1 h2,by dsimp only; omega,by simp; omega⟩).trans ?_
     dsimp only
     rw[znn h1 h2 h3,List.append_assoc]
     rfl
    ·obtain⟨hb1,hb2⟩:=h
     have hp:=(hisc.eq hg hat.mem).1
     have hp1:=hp.lo
     have hp2:p<(b.length:Int):=by rw[hb1]; exact hp.hi
     dsimp only
     simp only[hat.lt,hat.nn,hat.rd,hat.wrap,hp1,hp2,decide_true,if_true]
     exact hrec3 _ ⟨by rw[List.length_set]; exact hb1,hb2⟩
   ·have hisc:=hL.isc c hc
    obtain⟨a,r,e⟩:=hisc.ne hg
    have ha:a∈c:=by rw[e]; simp
    have hpt:=(hisc.eq hg ha).1
    have hcl:=hisc.len
    have m1:(0:Int)<(c.length:Int):=by rw[e,List.length_cons]; omega
    have m2:rd c (0:Int) (0:Int)=a:=by rw[e]; rfl
    have m3:=hpt.lo
    have m4:=hpt.hi
    dsimp only
    simp only[m1,m2,m3,m4,hal,Int.le_refl,decide_true,if_true,zrs ⟨m3,m4⟩]
    rw[z93 (fun p=>!rd (zf7 g.length L) p false&&!c.contains p) (hl1 _) fun p hp=>?_,Option.bind_some]
    ·dsimp only
     rw[Option.bind_some]
     dsimp only
     rw[zv9 hg hL hc ha]
    ·have hpr:=zsw hp
     have hp2:p<((zf7 g.length L).length:Int):=by rw[zf5]; exact hpr.2
     dsimp only
     simp only[hpr.1,hp2,decide_true,if_true]
     cases hb:rd (zf7 g.length L) p false with
     | true=>rfl
     | false=>
      simp only[Bool.not_false,if_true,Bool.true_and]
      rw[zdy (by rw[z03]; omega)]
      rfl
theorem zkh {α:Type} {p:α→α→Option Int} {R:α→α→Prop} {xs:List α} (hp:∀ x∈xs,∀ y∈xs,∃ v,p x y=some v∧(v<0↔R x y)) (irr:∀ x∈xs,¬R x x) (tr:∀ x∈xs,∀ y∈xs,∀ z∈xs,R x y→R y z→R x z)
  (tot:∀ x∈xs,∀ y∈xs,x≠y→R x y∨R y x) (hn:xs.Nodup) (hlen:xs.length<1000):∃ ys,zab p xs=some ys∧(∀ x,x∈ys↔x∈xs)∧ys.Pairwise R:=by
 have less:∀ x∈xs,∀ y∈xs,(zfv p x y=true↔R x y):=by
  intro x hx y hy
  obtain⟨v,h1,h2⟩:=hp x hx y hy
  unfold zfv
  rw[h1,decide_eq_true_iff]
  exact h2
 have lessF:∀ x∈xs,∀ y∈xs,(zfv p x y=false↔¬R x y):=fun x hx y hy=>by rw[←less x hx y hy]; simp
 have hok:zn3 p xs=true:=by
  unfold zn3
  rw[Bool.and_eq_true,decide_eq_true_eq]
  refine⟨by omega,?_⟩
  simp only[List.all_eq_true,Bool.and_eq_true,Bool.not_eq_true',Bool.or_eq_true,Bool.and_eq_false_iff]
  intro x hx
  refine⟨(lessF x hx x hx).2 (irr x hx),fun y hy=>⟨by obtain⟨v,h1,_⟩:=hp x hx y hy; rw[h1]; rfl,fun z hz=>?_⟩⟩
  rw[less x hx y hy,less y hy z hz,less x hx z hz,lessF x hx y hy,lessF y hy z hz,lessF x hx z hz]
  constructor
  ·by_cases h1:R x y
   ·by_cases h2:R y z
    ·exact .inr (tr x hx y hy z hz h1 h2)
    ·exact .inl (.inr h2)
   ·exact .inl (.inl h1)
  ·by_cases h3:R x z
   ·by_cases h1:R x y
    ·exact .inl (.inl h1)
    ·by_cases e:x=y
     ·subst e; exact .inl (.inr h3)
     ·exact .inl (.inr (tr y hy x hx z hz ((tot x hx y hy e).resolve_left h1) h3))
   ·exact .inr h3
 have h:zab p xs=some ((z2w xs.length (z4m p xs)).filterMap fun i=>xs[i]?):=by unfold zab; rw[if_pos hok]
 cases hxs:xs with
 | nil=>
  rw[hxs] at h
  have e0:∀ σ:List Nat,σ.filterMap (fun i=>([]:List α)[i]?)=[]:=fun σ=>by
   induction σ with
   | nil=>rfl
   | cons i σ ih=>rw[List.filterMap_cons,ih]; rfl
  rw[e0] at h
  exact⟨_,h,fun x=>by simp,List.Pairwise.nil⟩
 | cons z0 xs0=>
 rw[←hxs]
 obtain⟨h1,h2,h3,h4,h5,h6,_⟩:=zjq (z:=z0) h
 have hps:=(Go.Sort.pdq_sorts (z4x xs.length (z4m p xs)) h2 (List.range xs.length).toArray 0 xs.length (Go.Lib.bitLen xs.length) true true (Nat.zero_le _) (by simp) (Or.inl rfl)).2
 have hsd:∀ i j,i<j→j<xs.length→z4x xs.length (z4m p xs) ((z2w xs.length (z4m p xs)).getD j 0) ((z2w xs.length (z4m p xs)).getD i 0)=false:=by
  intro i j hij hj
  have:=hps i j (Nat.zero_le _) hij hj
  unfold z2w at h6 ⊢
  generalize Go.Sort.pdq (z4x xs.length (z4m p xs)) (List.range xs.length).toArray 0 xs.length (Go.Lib.bitLen xs.length) true true=d at this h6 ⊢
  have hd:d.size=xs.length:=by simpa using h6
  rw[getElem!_pos d j (by omega),getElem!_pos d i (by omega)] at this
  simpa[List.getD,show j<d.size by omega,show i<d.size by omega] using this
 rw[h]
 refine⟨_,rfl,?_⟩
 rw[h5]
 generalize z2w xs.length (z4m p xs)=σ at h3 h4 h6 hsd
 have hget:∀ i,i<xs.length→∃ x,xs[i]? = some x∧xs.getD i z0=x:=fun i hi=>⟨xs[i],List.getElem?_eq_getElem hi,by simp[List.getD,List.getElem?_eq_getElem hi]⟩
 constructor
 ·intro x
  rw[List.mem_map]
  constructor
  ·rintro⟨i,hi,rfl⟩
   obtain⟨y,e1,e2⟩:=hget i (h4 i hi)
   rw[e2]; exact List.mem_of_getElem? e1
  ·intro hx
   obtain⟨i,hi,rfl⟩:=List.mem_iff_getElem.1 hx
   have hiσ:i∈σ:=by
    refine Decidable.byContradiction fun hni=>?_
    have:=za0 (m:=List.range xs.length) (List.nodup_cons.2 ⟨hni,h3⟩) fun j hj=>by
     rcases List.mem_cons.1 hj with rfl | hj
     ·exact List.mem_range.2 hi
     ·exact List.mem_range.2 (h4 j hj)
    simp at this
    omega
   exact⟨i,hiσ,by simp[List.getD,List.getElem?_eq_getElem hi]⟩
 ·rw[List.pairwise_map,List.pairwise_iff_getElem]
  intro i j hi hj hij
  have hin:=h4 _ (List.getElem_mem hi)
  have hjn:=h4 _ (List.getElem_mem hj)
  obtain⟨x,x1,x2⟩:=hget _ hin
  obtain⟨y,y1,y2⟩:=hget _ hjn
  rw[x2,y2]
  have hx:=List.mem_of_getElem? x1
  have hy:=List.mem_of_getElem? y1
  have hs:=hsd i j hij (by omega)
  rw[show σ.getD i 0=σ[i] by simp[List.getD,List.getElem?_eq_getElem hi],show σ.getD j 0=σ[j] by simp[List.getD,List.getElem?_eq_getElem hj]] at hs
  unfold z4x at hs
  rw[Nat.min_eq_left (by omega),Nat.min_eq_left (by omega)] at hs
  have hv:=h1 _ _ y x y1 x1
  obtain⟨v,v1,v2⟩:=hp y hy x hx
  rw[v1] at hv
  obtain rfl:=Option.some.inj hv
  have hnR:¬R y x:=fun hr=>by
   have:=v2.2 hr
   rw[decide_eq_false_iff_not] at hs
   exact hs this
  have hne:y≠x:=by
   intro e
   subst e
   have e1:=(List.getElem?_eq_some_iff.1 x1).2
   have e2:=(List.getElem?_eq_some_iff.1 y1).2
   have e3:σ[i]=σ[j]:=(List.getElem_inj hn).1 (e1.trans e2.symm)
   have e4:=(List.getElem_inj h3).1 e3
   omega
  exact ((tot y hy x hx hne).resolve_left hnR)
def kAt (key:List Int) (p:Int):Int:=rd key p 0
def zgo (key:List Int) (p:Int):List Int→List Int
 | []=>[p]
 | y::r=>if kAt key y > kAt key p then y::zgo key p r else p::y::r
def insK (key:List Int) (l:List Int) (p:Int):List Int:=(zgo key p l.reverse).reverse
def byK (key:List Int) (l:List Int):List Int:=l.foldl (insK key) []
theorem zho {key:List Int} {p x:Int}:∀ {r:List Int},x∈zgo key p r↔x=p∨x∈r
 | []=>by simp[zgo]
 | y::r=>by
  unfold zgo
  split
  ·simp only[List.mem_cons,zho (r:=r)]
   exact⟨fun h=>by rcases h with h | h | h<;>simp[h],fun h=>by rcases h with h | h | h<;>simp[h]⟩
  ·simp
theorem zlj {key:List Int} {p:Int}:∀ {r:List Int},(zgo key p r).length=r.length+1
 | []=>rfl
 | y::r=>by unfold zgo; split<;>simp[zlj (r:=r)]
abbrev KLt (key:List Int) (x y:Int):Prop:=kAt key x<kAt key y
theorem zu5 {key:List Int} {p:Int}:∀ {r:List Int},(∀ y∈r,kAt key y≠kAt key p)→r.Pairwise (fun a b=>KLt key b a)→(zgo key p r).Pairwise (fun a b=>KLt key b a)
 | [],_,_=>by simp[zgo]
 | y::r,hne,h=>by
  obtain⟨h1,h2⟩:=List.pairwise_cons.1 h
  have hy:=hne y (by simp)
  unfold zgo
  split
  ·rename_i hgt
   refine List.pairwise_cons.2 ⟨fun z hz=>?_,zu5 (fun z hz=>hne z (by simp[hz])) h2⟩
   rcases zho.1 hz with rfl | hz
   ·exact hgt
   ·exact h1 z hz
  ·rename_i hgt
   refine List.pairwise_cons.2 ⟨fun z hz=>?_,h⟩
   rcases List.mem_cons.1 hz with rfl | hz
   ·show kAt key z<kAt key p; omega
   ·have:=h1 z hz; show kAt key z<kAt key p; have h3:kAt key z<kAt key y:=this; omega
theorem zyo {key:List Int}:∀ (l s:List Int),(∀ x∈l,∀ y∈s,kAt key y≠kAt key x)→l.Pairwise (fun a b=>kAt key a≠kAt key b)→s.Pairwise (KLt key) →
  (l.foldl (insK key) s).Pairwise (KLt key)∧(∀ x,x∈l.foldl (insK key) s↔x∈s∨x∈l)∧(l.foldl (insK key) s).length=s.length+l.length
 | [],s,_,_,h=>⟨h,fun x=>by simp,rfl⟩
 | p::l,s,hd,hl,h=>by
  obtain⟨l1,l2⟩:=List.pairwise_cons.1 hl
  have hm:∀ x,x∈insK key s p↔x=p∨x∈s:=fun x=>by unfold insK; rw[List.mem_reverse,zho,List.mem_reverse]
  have hp:(insK key s p).Pairwise (KLt key):=by
   unfold insK
   rw[List.pairwise_reverse]
   refine zu5 (fun y hy=>hd p (by simp) y (List.mem_reverse.1 hy)) ?_
   rw[List.pairwise_reverse]; exact h
  obtain⟨q1,q2,q3⟩:=zyo l (insK key s p) (fun x hx y hy=>by
   rcases (hm y).1 hy with rfl | hy
   ·exact l1 x hx
   ·exact hd x (by simp[hx]) y hy) l2 hp
  refine⟨q1,fun x=>?_,?_⟩
  ·rw[List.foldl_cons,q2,hm,List.mem_cons]
   exact⟨fun h=>by rcases h with (h | h) | h<;>simp[h],fun h=>by rcases h with h | h | h<;>simp[h]⟩
  ·rw[List.foldl_cons,q3]
   unfold insK
   rw[List.length_reverse,zlj,List.length_reverse,List.length_cons]; omega
theorem zzk {l:List Int} (h:l.length≤1000):z2e l=some ((l,()),()):=by
 unfold z2e zaf
 have:((([]:List Int).length+l.length)*8≤140737488355328)=True:=by simp; omega
 simp only[this,decide_true,if_true,List.nil_append]
theorem zo4 {key l:List Int} (hl:l.length≤60) (hin:∀ p∈l,0≤p∧p<(key.length:Int)):z7q l key=some ((byK key l,()),()):=by
 unfold z7q
 refine z0q 102 fun N hN=>?_
 unfold zb7
 refine z06 l (by rw[z03]; omega) (fun j (s:List Int)=>((key,l,(l.length:Int),(j:Int),()),(([]:List Int),s,()))) (fun j t s=>((t.foldl (insK key) s,()),())) (fun j t s=>s.length≤j∧∀ p∈s,0≤p∧p<(key.length:Int))
  [] rfl rfl ⟨by simp,by simp⟩ (by omega) (fun rec s h=>?_) (fun rec j p t s hat h hrec=>?_)
 ·dsimp only
  simp only[z00,decide_false,Bool.false_eq_true,if_false]
  rfl
 ·obtain⟨hs,hsin⟩:=h
  have hp:=hin p hat.mem
  have hjlt:=hat.ltn
  dsimp only
  simp only[hat.lt,hat.nn,hat.rd,decide_true,if_true]
  have hrec1:rec ((key,l,(l.length:Int),((j+1:Nat):Int),()),(([]:List Int),insK key s p,()))=some (((p::t).foldl (insK key) s,()),()):=by
   refine hrec (insK key s p) ⟨by unfold insK; rw[List.length_reverse,zlj,List.length_reverse]; omega,fun x hx=>?_⟩
   unfold insK at hx
   rcases zho.1 (List.mem_reverse.1 hx) with rfl | hx
   ·exact hp
   ·exact hsin x (List.mem_reverse.1 hx)
  refine z1o s.length (fun i (_:Unit)=>((key,p,((s.length - i:Nat):Int),l,(l.length:Int),(j:Int),()),(([]:List Int),s,()))) (fun i _=>(((p::t).foldl (insK key) s,()),()))
   (fun i _=>insK key s p=(zgo key p (s.take (s.length - i)).reverse).reverse++s.drop (s.length - i)) () rfl rfl (by simp[insK]) (by omega) (fun rec2 i _ hi h hrec2=>?_)
  dsimp only
  generalize hk:s.length - i=k at hrec2 h ⊢
  have hkl:k≤s.length:=by omega
  have fin:zgo key p (s.take k).reverse=p::(s.take k).reverse→insK key s p=((s.take k)++[p])++s.drop k:=by
   intro he
   rw[h,he]; simp
  have c1:(0:Int)≤(s.length:Int):=by omega
  have c2:(0:Int)≤(k:Int):=by omega
  have c3:(k:Int)≤(s.length:Int):=by omega
  have c4:((((s.take (k:Int).toNat).drop (0:Int).toNat).length+([p]:List Int).length)*8≤140737488355328):=by simp; omega
  have c5:(((((s.take (k:Int).toNat).drop (0:Int).toNat)++([p]:List Int)).length+(s.drop k).length)*8≤140737488355328):=by simp; omega
  have o1:z2e ((s.take (s.length:Int).toNat).drop (k:Int).toNat)=some ((s.drop k,()),()):=by
   rw[Int.toNat_natCast,Int.toNat_natCast,List.take_length]
   exact zzk (by simp; omega)
  have e0:(s.take (k:Int).toNat).drop (0:Int).toNat=s.take k:=by simp
  cases k with
  | zero=>
   have c0:¬(((0:Nat):Int) > 0):=by omega
   simp only[c0,c1,c2,c3,o1,Option.bind_some,c4,c5,hat.wrap,Int.le_refl,decide_true,decide_false,Bool.false_eq_true,if_false,if_true]
   rw[e0,←fin (by simp[zgo])]
   exact hrec1
  | succ k=>
   have hil:i<s.length:=by omega
   have c0:(((k+1:Nat):Int) > 0):=by omega
   have hw:IntKind.i64.wrap (((k+1:Nat):Int) - 1)=(k:Int):=by rw[z0b (by omega) (by omega)]; omega
   have d1:(0:Int)≤(k:Int):=by omega
   have d2:(k:Int)<(s.length:Int):=by omega
   have hkl':k<s.length:=by omega
   have hg:s[k]? = some s[k]:=List.getElem?_eq_getElem hkl'
   have hr:rd s (k:Int) (0:Int)=s[k]:=by rw[z6v]; simp[List.getD,hg]
   obtain⟨y0,y1⟩:=hsin _ (List.getElem_mem hkl')
   have htk:(s.take (k+1)).reverse=s[k]::(s.take k).reverse:=by
    rw[List.take_add_one,hg]
    simp
   simp only[c0,d1,d2,hw,hr,y0,y1,hp.1,hp.2,decide_true,if_true]
   rw[htk] at h
   have hgt0:(decide (rd key s[k] (0:Int) > rd key p (0:Int)))=decide (kAt key s[k] > kAt key p):=rfl
   rw[hgt0]
   unfold zgo at h
   by_cases hgt:kAt key s[k] > kAt key p
   ·rw[if_pos hgt,List.reverse_cons,List.append_assoc] at h
    simp only[hgt,decide_true,if_true]
    have hrec3:=hrec2 hil ()
    rw[show s.length - (i+1)=k by omega] at hrec3
    refine hrec3 ?_
    rw[h,List.drop_eq_getElem_cons hkl']
    rfl
   ·simp only[hgt,decide_false,Bool.false_eq_true,if_false]
    simp only[c1,c2,c3,o1,Option.bind_some,c4,c5,hat.wrap,Int.le_refl,decide_true,decide_false,Bool.false_eq_true,if_false,if_true]
    have hst:zgo key p (s.take (k+1)).reverse=p::(s.take (k+1)).reverse:=by
     rw[htk]
     exact if_neg hgt
    rw[e0,←fin hst]
    exact hrec1
structure Keys (g:List (List Int)) (key:List Int):Prop where
 len:key.length=g.length
 lo:∀ k∈key,0≤k∧k≤999999
 inj:∀ p q,Pt g p→Pt g q→kAt key p=kAt key q→p=q
theorem Keys.at {g:List (List Int)} {key:List Int} (h:Keys g key) {p:Int} (hp:Pt g p):0≤kAt key p∧kAt key p≤999999:=by
 have h0:=hp.lo
 have h1:=hp.hi
 have hl:=h.len
 have:p.toNat<key.length:=by omega
 unfold kAt rd
 rw[List.getD_eq_getElem?_getD,List.getElem?_eq_getElem this]
 exact h.lo _ (List.getElem_mem this)
theorem zm5 {g:List (List Int)}:∀ (k:Nat) (L:List (List Int)),∀ c∈za9 g k L,c∈L
 | 0,L,c,h=>by simp[za9] at h
 | k+1,L,c,h=>by
  unfold za9 at h
  split at h
  ·rename_i i hi
   rcases List.mem_cons.1 h with rfl | h
   ·have hil:i<L.length:=by have:=List.findIdx?_eq_some_iff_getElem.1 hi; exact this.1
    simp[List.getD,List.getElem?_eq_getElem hil]
   ·exact List.mem_of_mem_eraseIdx (zm5 k _ c h)
  ·simp at h
theorem zrj {g:List (List Int)}:∀ (k:Nat) (L:List (List Int)),(za9 g k L).length≤k
 | 0,L=>by simp[za9]
 | k+1,L=>by
  unfold za9
  split
  ·have:=zrj (g:=g) k
   simp only[List.length_cons]
   have:=this (L.eraseIdx (by assumption))
   omega
  ·simp
theorem zm4 {g:List (List Int)} (hg:GG g):∀ c∈zms g,IsC g c:=fun c hc=>(zcb hg).isc c (zm5 _ _ c hc)
theorem zri (g:List (List Int)):(zms g).length≤g.length:=Nat.le_trans (zrj _ _) (zp1 g)
def ordL (g:List (List Int)) (key:List Int):List Int:=(zms g).flatMap (byK key)
theorem zrm (g:List (List Int)) (k:Int):(cls g k).Nodup:=by
 unfold cls
 exact (zn9 _).sublist List.filter_sublist
theorem IsC.byK {g:List (List Int)} (hg:GG g) {key:List Int} (hk:Keys g key) {c:List Int} (hc:IsC g c):(P.byK key c).Pairwise (KLt key)∧(∀ x,x∈P.byK key c↔x∈c)∧(P.byK key c).length=c.length:=by
 have hnd:c.Nodup:=by obtain⟨k,_,rfl⟩:=hc; exact zrm g k
 obtain⟨h1,h2,h3⟩:=zyo (key:=key) c [] (by simp) (by
  refine hnd.imp_of_mem fun {a b} ha hb hne he=>hne (hk.inj a b (hc.eq hg ha).1 (hc.eq hg hb).1 he)) List.Pairwise.nil
 exact⟨h1,fun x=>by unfold P.byK; rw[h2]; simp,by unfold P.byK; rw[h3]; simp⟩
theorem zo0 {g:List (List Int)} (hg:GG g) (hq:∀ l∈g,l.length≤100) {key:List Int} (hk:Keys g key):z7p g key=some ((ordL g key,()),()):=by
 unfold z7p
 refine z0q 102 fun N hN=>?_
 unfold zb6
 have h40:=hg.le
 rw[zh4 hg hq,Option.bind_some]
 have hcl:=zri g
 have hisc:=zm4 hg
 unfold ordL
 generalize zms g=L at hcl hisc
 dsimp only
 refine z06 L (by rw[z03]; omega) (fun j (s:List Int)=>((key,L,(L.length:Int),(j:Int),()),(([]:List Int),s,()))) (fun j t s=>((s++t.flatMap (byK key),()),())) (fun j t s=>s.length≤40*j)
  [] rfl rfl (by simp) (by omega) (fun rec s h=>?_) (fun rec j c t s hat h hrec=>?_)
 ·dsimp only
  simp only[z00,decide_false,Bool.false_eq_true,if_false,List.flatMap_nil,List.append_nil]
 ·have hc:=hisc c hat.mem
  have hcl2:=hc.len
  obtain⟨b1,b2,b3⟩:=hc.byK hg hk
  have hjl:=hat.ltn
  dsimp only
  simp only[hat.lt,hat.nn,hat.rd,hat.wrap,decide_true,if_true]
  rw[zo4 (by omega) fun p hp=>?_,Option.bind_some]
  ·have hbd:((s.length+(byK key c).length)*8≤140737488355328):=by omega
   simp only[hbd,decide_true,if_true]
   refine (hrec _ (by rw[List.length_append]; omega)).trans ?_
   rw[List.flatMap_cons,List.append_assoc]
  ·have:=(hc.eq hg hp).1
   exact⟨this.lo,by rw[hk.len]; exact this.hi⟩
theorem zox {g:List (List Int)} (hg:GG g) (hq:∀ l∈g,l.length≤100) {key:List Int} (hk:Keys g key):zau g key=some ((ordL g key,()),()):=by
 unfold zau
 refine z0q 102 fun N hN=>?_
 unfold zem
 have h40:=hg.le
 rw[zhv hg hq,Option.bind_some]
 have hcl:=zri g
 have hisc:=zm4 hg
 unfold ordL
 generalize zms g=L at hcl hisc
 dsimp only
 refine zew L (by rw[z03]; omega) (fun j (M:List (List Int)) (s:List Int)=>(((L.length:Int),(j:Int),()),((key,()),([]:List Int),s,M,()))) (fun dn t s=>((s++t.flatMap (byK key),()),())) (fun dn t s=>s.length≤40*dn.length∧dn.length+t.length=L.length∧∀ c∈t,IsC g c)
  [] rfl rfl ⟨by simp,by simp,hisc⟩ (by omega) (fun rec dn s hdl h=>?_) (fun rec dn c t s hat h hrec=>?_)
 ·dsimp only
  rw[hdl]
  simp only[z00,decide_false,Bool.false_eq_true,if_false,List.flatMap_nil,List.append_nil]
 ·obtain⟨hs,hdt,hin⟩:=h
  rw[List.length_cons] at hdt
  have hc:=hin c (by simp)
  have hcl2:=hc.len
  obtain⟨b1,b2,b3⟩:=hc.byK hg hk
  have hpt:∀ x∈c,Pt g x:=fun x hx=>(hc.eq hg hx).1
  have hnd:c.Nodup:=by obtain⟨k,_,rfl⟩:=hc; exact zrm g k
  have hjl:=hat.ltn
  have hlt:(dn.length:Int)<(L.length:Int):=by omega
  dsimp only
  simp only[hlt,hat.lt,hat.nn,hat.rd,hat.wrap,decide_true,if_true]
  obtain⟨ys,y1,y2,y3⟩:=zkh (p:=fun x y=>(fun (x4:(Int×Int×Unit))=>((if (decide (0≤x4.1)) then (if (decide (x4.1<key.length)) then (if (decide (0≤x4.2.1)) then (if (decide (x4.2.1<key.length)) then (some (((IntKind.i64.wrap ((rd key x4.1 (0:Int)) - (rd key x4.2.1 (0:Int)))),()),())) else none) else none) else none) else none)).bind fun (y5:(Int×Unit)×Unit)=>some y5.1.1) (x,(y,()))) (R:=KLt key) (xs:=c) (fun x hx y hy=>by
   have hx':=hpt x hx
   have hy':=hpt y hy
   have x0:=hx'.lo
   have y0:=hy'.lo
   have x1:x<(key.length:Int):=by rw[hk.len]; exact hx'.hi
   have y1:y<(key.length:Int):=by rw[hk.len]; exact hy'.hi
   have kx:=hk.at hx'
   have ky:=hk.at hy'
   refine⟨kAt key x - kAt key y,?_,by show _↔kAt key x<kAt key y; omega⟩
   dsimp only
   simp only[x0,y0,x1,y1,decide_true,if_true,Option.bind_some]
   show some (IntKind.i64.wrap (kAt key x - kAt key y))=_
   rw[z0b (by omega) (by omega)]) (fun x _ h=>by have h:kAt key x<kAt key x:=h; omega) (fun x _ y _ z _ h1 h2=>by have h1:kAt key x<kAt key y:=h1; have h2:kAt key y<kAt key z:=h2; show kAt key x<kAt key z; omega)
   (fun x hx y hy hne=>by
    have:kAt key x≠kAt key y:=fun e=>hne (hk.inj x y (hpt x hx) (hpt y hy) e)
    show kAt key x<kAt key y∨kAt key y<kAt key x
    omega) hnd (by omega)
  obtain rfl:ys=byK key c:=zwv (fun x y h1 h2=>by have h1:kAt key x<kAt key y:=h1; have h2:kAt key y<kAt key x:=h2; omega) y3 b1 fun x=>(y2 x).trans (b2 x).symm
  rw[y1,Option.bind_some]
  have hset:(dn++c::t).set (dn.length:Int).toNat (byK key c)=dn++byK key c::t:=by rw[Int.toNat_natCast]; exact zfy _ _ _ _
  have hrd:rd (dn++byK key c::t) (dn.length:Int) ([]:List Int)=byK key c:=by rw[z6v]; simp[List.getD]
  rw[hset,hrd]
  have hbd:((s.length+(byK key c).length)*8≤140737488355328):=by omega
  simp only[hbd,decide_true,if_true]
  refine (hrec (byK key c) _ ⟨by simp only[List.length_append,List.length_singleton]; omega,by simp only[List.length_append,List.length_singleton]; omega,fun d hd=>hin d (by simp[hd])⟩).trans ?_
  rw[List.flatMap_cons,List.append_assoc]
def ltI (x y:List Int):Prop:=x.getD 0 0<y.getD 0 0∨(x.getD 0 0=y.getD 0 0∧x.getD 1 0<y.getD 1 0)
theorem zom (x y:List Int) (h1:ltI x y) (h2:ltI y x):False:=by unfold ltI at h1 h2; omega
theorem ztu {j c k d:Nat} (h:pl j c=pl k d):j=k∧c=d:=by
 simp only[pl,List.cons.injEq,and_true] at h
 omega
theorem zg0 (j c:Nat):(pl j c).getD 0 0=(j:Int)∧(pl j c).getD 1 0=((c+1:Nat):Int):=⟨rfl,rfl⟩
theorem ziy {j k c:Nat}:∀ {t:List T7} {i:Nat},pl k c∈z5x j i t↔k=j∧i≤c∧∃ r,t[c - i]? = some r∧(r.2.2.1==(3:Int))=true
 | [],i=>by simp[z5x]
 | r::t,i=>by
  simp only[z5x,List.mem_append,ziy (t:=t)]
  constructor
  ·rintro (h | ⟨h1,h2,r',h3,h4⟩)
   ·split at h
    ·rename_i hb
     rw[List.mem_singleton] at h
     obtain⟨rfl,rfl⟩:=ztu h
     exact⟨rfl,Nat.le_refl _,r,by simp,hb⟩
    ·simp at h
   ·refine⟨h1,by omega,r',?_,h4⟩
    rw[show c - i=(c - (i+1))+1 by omega,List.getElem?_cons_succ]; exact h3
  ·rintro⟨rfl,h2,r',h3,h4⟩
   by_cases e:c=i
   ·subst e
    rw[Nat.sub_self,List.getElem?_cons_zero] at h3
    obtain rfl:=Option.some.inj h3
    left
    rw[if_pos h4]; simp
   ·right
    refine⟨rfl,by omega,r',?_,h4⟩
    rw[show c - i=(c - (i+1))+1 by omega,List.getElem?_cons_succ] at h3; exact h3
theorem zrl {j:Nat}:∀ {t:List T7} {i:Nat},(z5x j i t).Pairwise ltI
 | [],i=>by simp[z5x]
 | r::t,i=>by
  unfold z5x
  refine List.pairwise_append.2 ⟨by split<;>simp,zrl,fun x hx y hy=>?_⟩
  split at hx
  ·rw[List.mem_singleton] at hx
   subst hx
   obtain⟨c,rfl,_⟩:=zce hy
   have:=(ziy.1 hy).2.1
   right
   rw[(zg0 j i).1,(zg0 j c).1,(zg0 j i).2,(zg0 j c).2]
   omega
  ·simp at hx
theorem zpa {k c:Nat}:∀ {u:List (List T7)} {j:Nat},pl k c∈comR j u↔j≤k∧∃ x,u[k - j]? = some x∧∃ r,x[c]? = some r∧(r.2.2.1==(3:Int))=true
 | [],j=>by simp[comR]
 | x::u,j=>by
  simp only[comR,List.mem_append,zpa (u:=u),ziy]
  constructor
  ·rintro (⟨rfl,_,r,h3,h4⟩ | ⟨h1,y,h2,r,h3,h4⟩)
   ·exact⟨Nat.le_refl _,x,by simp,r,h3,h4⟩
   ·refine⟨by omega,y,?_,r,h3,h4⟩
    rw[show k - j=(k - (j+1))+1 by omega,List.getElem?_cons_succ]; exact h2
  ·rintro⟨h1,y,h2,r,h3,h4⟩
   by_cases e:k=j
   ·subst e
    rw[Nat.sub_self,List.getElem?_cons_zero] at h2
    obtain rfl:=Option.some.inj h2
    exact .inl ⟨rfl,Nat.zero_le _,r,h3,h4⟩
   ·right
    refine⟨by omega,y,?_,r,h3,h4⟩
    rw[show k - j=(k - (j+1))+1 by omega,List.getElem?_cons_succ] at h2; exact h2
theorem zyl:∀ {u:List (List T7)} {j:Nat} {e:List Int},e∈comR j u→∃ k c,e=pl k c∧j≤k
 | [],j,e,h=>by simp[comR] at h
 | x::u,j,e,h=>by
  simp only[comR,List.mem_append] at h
  rcases h with h | h
  ·obtain⟨c,h1,_⟩:=zce h
   exact⟨j,c,h1,Nat.le_refl _⟩
  ·obtain⟨k,c,h1,h2⟩:=zyl h
   exact⟨k,c,h1,by omega⟩
theorem comR_pw:∀ {u:List (List T7)} {j:Nat},(comR j u).Pairwise ltI
 | [],j=>by simp[comR]
 | x::u,j=>by
  unfold comR
  refine List.pairwise_append.2 ⟨zrl,comR_pw,fun a ha b hb=>?_⟩
  obtain⟨c,rfl,_⟩:=zce ha
  obtain⟨k,d,rfl,hk⟩:=zyl hb
  left
  rw[(zg0 j c).1,(zg0 k d).1]
  omega
theorem zfp (R:List (List T7)):(comR 0 R).Nodup:=by
 refine List.Pairwise.imp (R:=ltI) (fun {a b} h e=>?_) comR_pw
 subst e
 exact zom _ _ h h
theorem zm6 {T:List (List T7)} (hT:GoodR T) {x:List Int}:x∈comR 0 T↔Ins T.length x∧comd T x=true:=by
 constructor
 ·intro h
  have hi:Ins T.length x:=by simpa using zdg hT.six h
  obtain⟨j,c,rfl,hj,hc⟩:=hi
  refine⟨⟨j,c,rfl,hj,hc⟩,?_⟩
  obtain⟨_,y,h2,r,h3,h4⟩:=zpa.1 h
  unfold comd
  rw[z2s]
  unfold z1b
  rw[Nat.sub_zero] at h2
  rw[show T.getD j []=y by simp[List.getD,h2],h3]
  exact h4
 ·rintro⟨⟨j,c,rfl,hj,hc⟩,h⟩
  unfold comd at h
  rw[z2s] at h
  unfold z1b at h
  refine zpa.2 ⟨Nat.zero_le _,T[j],by rw[Nat.sub_zero]; exact List.getElem?_eq_getElem hj,?_⟩
  rw[show T.getD j []=T[j] by simp[List.getD,hj]] at h
  split at h
  ·exact⟨_,by assumption,h⟩
  ·simp[z8u] at h
theorem zr4 {k c:Nat}:∀ {u:List Int} {j:Nat},(∀ b∈u,0≤b∧b≤6)→(pl k c∈zc9 j u↔j≤k∧k<j+u.length∧((c+1:Nat):Int)≤u.getD (k - j) 0)
 | [],j,_=>by simp[zc9]
 | d::u,j,hv=>by
  have hd:=hv d (by simp)
  simp only[zc9,List.mem_append,List.mem_map,List.mem_range,zr4 (u:=u) (fun b hb=>hv b (by simp[hb]))]
  constructor
  ·rintro (⟨c',h1,h2⟩ | ⟨h1,h2,h3⟩)
   ·obtain⟨rfl,rfl⟩:=ztu h2
    refine⟨Nat.le_refl _,by simp,?_⟩
    rw[Nat.sub_self,List.getD_cons_zero]; omega
   ·refine⟨by omega,by simp only[List.length_cons]; omega,?_⟩
    rw[show k - j=(k - (j+1))+1 by omega,List.getD_cons_succ]; exact h3
  ·rintro⟨h1,h2,h3⟩
   by_cases e:k=j
   ·subst e
    rw[Nat.sub_self,List.getD_cons_zero] at h3
    exact .inl ⟨c,by omega,rfl⟩
   ·right
    refine⟨by omega,by simp only[List.length_cons] at h2; omega,?_⟩
    rw[show k - j=(k - (j+1))+1 by omega,List.getD_cons_succ] at h3; exact h3
noncomputable def ix (P:List (List Int)) (y:List Int):Int:=idxI (fun x=>same y x) P 0
theorem y6k {P:List (List Int)} (hP:P.Nodup) {y:List Int} {k:Int} (h0:0≤k):ix P y=k↔P[k.toNat]? = some y:=by
 unfold ix
 constructor
 ·intro h
  have ha:=z96 (fun x=>same y x) P 0 (Int.le_refl 0)
  rw[h,decide_eq_true (show k≥0 from h0)] at ha
  have hex:=List.any_eq_true.1 ha.symm
  obtain⟨i,c,h1,h2,_,h4⟩:=zfm (q:=fun x=>same y x) (l:=P) (i:=0) hex
  rw[h] at h4
  have:k.toNat=i:=by omega
  rw[this,h1,←z1c.1 h2]
 ·intro h
  obtain⟨i,c,h1,h2,_,h4⟩:=zfm (q:=fun x=>same y x) (l:=P) (i:=0) ⟨y,List.mem_of_getElem? h,z1c.2 rfl⟩
  have h2:=z1c.1 h2
  subst h2
  have e1:=(List.getElem?_eq_some_iff.1 h1)
  have e2:=(List.getElem?_eq_some_iff.1 h)
  have:=(List.getElem_inj hP).1 (e1.2.trans e2.2.symm)
  rw[h4]; omega
noncomputable def zgr (T:List (List T7)) (P:List (List Int)) (x:List Int):List Int:=(ptsN P.length).filter fun k=>!same (P.getD k.toNat []) x&&hasB (sucs T x) (P.getD k.toNat [])
theorem zqo {T:List (List T7)} {P:List (List Int)} {x:List Int} {k:Int}:k∈zgr T P x↔0≤k∧∃ y,P[k.toNat]? = some y∧y≠x∧y∈sucs T x:=by
 unfold zgr
 rw[List.mem_filter,zfl]
 constructor
 ·rintro⟨⟨h1,h2⟩,h3⟩
  have hk:k.toNat<P.length:=by omega
  rw[show P.getD k.toNat []=P[k.toNat] by simp[List.getD,hk]] at h3
  simp only[Bool.and_eq_true,Bool.not_eq_true',z4s] at h3
  refine⟨h1,P[k.toNat],List.getElem?_eq_getElem hk,fun e=>?_,h3.2⟩
  rw[z1c.2 e] at h3; cases h3.1
 ·rintro⟨h1,y,h2,h3,h4⟩
  have hk:=(List.getElem?_eq_some_iff.1 h2).1
  refine⟨⟨h1,by omega⟩,?_⟩
  rw[show P.getD k.toNat []=y by simp[List.getD,h2]]
  simp only[Bool.and_eq_true,Bool.not_eq_true',z4s]
  refine⟨?_,h4⟩
  cases hb:same y x with
  | false=>rfl
  | true=>exact absurd (z1c.1 hb) h3
theorem zxs (T:List (List T7)) (P:List (List Int)) (x:List Int):Ris (zgr T P x):=(ztt _).filter _
theorem zxt (T:List (List T7)) (P:List (List Int)) (x:List Int):(zgr T P x).length≤P.length:=by
 have:=List.length_filter_le (fun k:Int=>!same (P.getD k.toNat []) x&&hasB (sucs T x) (P.getD k.toNat [])) (ptsN P.length)
 rw[z5e] at this; exact this
noncomputable def grT (T:List (List T7)):List (List Int):=(comR 0 T).map (zgr T (comR 0 T))
theorem zte {T:List (List T7)} (hT:GoodR T):(comR 0 T).length≤30:=by
 have h2:=zk0 T 0 hT.six
 have:=hT.five
 omega
theorem y6o {T:List (List T7)} (hT:GoodR T):GG (grT T)∧∀ l∈grT T,l.length≤100:=by
 have hc:=zte hT
 have hl:(grT T).length=(comR 0 T).length:=by simp[grT]
 refine⟨⟨by omega,fun l h q hq=>?_⟩,fun l h=>?_⟩
 ·obtain⟨x,hx,rfl⟩:=List.mem_map.1 h
  obtain⟨h0,y,hy,_⟩:=zqo.1 hq
  have:=(List.getElem?_eq_some_iff.1 hy).1
  exact⟨h0,by omega⟩
 ·obtain⟨x,hx,rfl⟩:=List.mem_map.1 h
  have:=zxt T (comR 0 T) x
  omega
theorem zo3 {T:List (List T7)} (hT:GoodR T):z7o (tb T)=some ((comR 0 T,grT T,()),()):=by
 unfold z7o
 refine z0q 42 fun N hN=>?_
 unfold zb5
 rw[z9j hT,Option.bind_some]
 have hci:∀ x∈comR 0 T,Ins T.length x:=fun x hx=>by simpa using zdg hT.six hx
 have hcl:=zte hT
 have hnd:=zfp T
 unfold grT
 generalize comR 0 T=P at hci hcl hnd
 dsimp only
 refine z06 P (by rw[z03]; omega) (fun i (s:List (List Int))=>(((P.length:Int),(i:Int),()),(tb T,([]:List (List Int)),([]:List (List Int)),P,s,()))) (fun i t s=>((P,s++t.map (zgr T P),()),())) (fun i t s=>s.length≤i)
  [] rfl rfl (by simp) (by omega) (fun rec s h=>?_) (fun rec i x t s hat h hrec=>?_)
 ·dsimp only
  simp only[z00,decide_false,Bool.false_eq_true,if_false,List.map_nil,List.append_nil]
 ·obtain⟨j,c,rfl,hj,hc⟩:=hci x hat.mem
  have hilt:=hat.ltn
  obtain⟨l2,r0,r1⟩:=zic j c
  have k3:(0:Int)<((pl j c).length:Int):=by rw[l2]; omega
  have k4:(1:Int)<((pl j c).length:Int):=by rw[l2]; omega
  dsimp only
  simp only[hat.lt,hat.nn,hat.rd,k3,k4,r0,r1,Int.le_refl,decide_true,if_true,show (0:Int)≤1 from by omega]
  rw[zfx hT hj hc,Option.bind_some]
  have hix:Ins T.length (pl j c):=⟨j,c,rfl,hj,hc⟩
  have hsl:((sucs T (pl j c)).filter fun y=>!same y (pl j c)).length≤30:=Nat.le_trans (List.length_filter_le _ _) (zny hT hix)
  have hsm:∀ y,y∈(sucs T (pl j c)).filter (fun y=>!same y (pl j c))↔y∈sucs T (pl j c)∧y≠pl j c:=fun y=>by
   rw[List.mem_filter,Bool.not_eq_true']
   refine and_congr_right fun _=>⟨fun h e=>(by rw[z1c.2 e] at h; cases h),fun h=>?_⟩
   cases hb:same y (pl j c) with
   | false=>rfl
   | true=>exact absurd (z1c.1 hb) h
  have hsi:∀ y∈(sucs T (pl j c)).filter fun y=>!same y (pl j c),Ins T.length y:=fun y hy=>zjo hT hix y (List.mem_filter.1 hy).1
  generalize (sucs T (pl j c)).filter (fun y=>!same y (pl j c))=L at hsl hsi hsm
  dsimp only
  refine z06 L (by rw[z03]; omega) (fun k (s':List Int)=>((s',(P.length:Int),(i:Int),(L.length:Int),(k:Int),()),(tb T,([]:List (List Int)),([]:List (List Int)),P,s,L,())))
   (fun k t' s'=>((P,s++(pl j c::t).map (zgr T P),()),())) (fun k t' s'=>Ris s'∧s'.length≤k∧∀ q:Int,q∈zgr T P (pl j c)↔q∈s'∨(0≤q∧∃ y∈t',ix P y=q)) [] rfl rfl ⟨by simp[Ris],by simp,fun q=>?_⟩ (by omega) (fun rec2 s' h'=>?_) (fun rec2 k y t' s' hat2 h' hrec2=>?_)
  ·rw[zqo]
   constructor
   ·rintro⟨h0,y,h1,h2,h3⟩
    exact .inr ⟨h0,y,(hsm y).2 ⟨h3,h2⟩,(y6k hnd h0).2 h1⟩
   ·rintro (h | ⟨h0,y,h1,h2⟩)
    ·simp at h
    ·obtain⟨h3,h4⟩:=(hsm y).1 h1
     exact⟨h0,y,(y6k hnd h0).1 h2,h4,h3⟩
  ·obtain⟨h1,h2,h3⟩:=h'
   have e:s'=zgr T P (pl j c):=zwr h1 (zxs _ _ _) fun q=>by rw[h3]; simp
   have hbd:((s.length+([s']:List (List Int)).length)*24≤140737488355328):=by simp only[List.length_cons,List.length_nil]; omega
   dsimp only
   simp only[z00,decide_false,Bool.false_eq_true,if_false,hbd,decide_true,if_true,hat.wrap]
   refine (hrec _ (by simp; omega)).trans ?_
   rw[e]; simp
  ·obtain⟨h1,h2,h3⟩:=h'
   have hy:=hsi y hat2.mem
   have hkl:=hat2.ltn
   dsimp only
   simp only[hat2.lt,hat2.nn,hat2.rd,hat2.wrap,decide_true,if_true]
   rw[zt9 (zvv hci (by omega)) (by rw[hy.len,z03]; omega),Option.bind_some]
   show (if decide (ix P y≥(0:Int))=true then _ else _)=_
   by_cases hge:ix P y≥(0:Int)
   ·rw[if_pos (by simpa using hge),y0t (by omega),Option.bind_some]
    refine hrec2 (putL (ix P y) s') ⟨zoe h1,by have:=zts (ix P y) s'; omega,fun q=>?_⟩
    rw[h3,zjv]
    constructor
    ·rintro (h | ⟨h0,z,hz,he⟩)
     ·exact .inl (.inr h)
     ·rcases List.mem_cons.1 hz with rfl | hz
      ·exact .inl (.inl he.symm)
      ·exact .inr ⟨h0,z,hz,he⟩
    ·rintro ((rfl | h) | ⟨h0,z,hz,he⟩)
     ·exact .inr ⟨hge,y,by simp,rfl⟩
     ·exact .inl h
     ·exact .inr ⟨h0,z,by simp[hz],he⟩
   ·rw[if_neg (by simpa using hge)]
    refine hrec2 _ ⟨h1,by omega,fun q=>?_⟩
    rw[h3]
    constructor
    ·rintro (h | ⟨h0,z,hz,he⟩)
     ·exact .inl h
     ·rcases List.mem_cons.1 hz with rfl | hz
      ·omega
      ·exact .inr ⟨h0,z,hz,he⟩
    ·rintro (h | ⟨h0,z,hz,he⟩)
     ·exact .inl h
     ·exact .inr ⟨h0,z,by simp[hz],he⟩
theorem zoy {T:List (List T7)} (hT:GoodR T):z44 (tb T)=some ((comR 0 T,grT T,()),()):=by
 unfold z44
 refine z0q 42 fun N hN=>?_
 unfold z69
 rw[zc7 hT,Option.bind_some]
 have hci:∀ x∈comR 0 T,Ins T.length x:=fun x hx=>by simpa using zdg hT.six hx
 have hcl:=zte hT
 have hnd:=zfp T
 unfold grT
 generalize comR 0 T=P at hci hcl hnd
 dsimp only
 refine z06 P (by rw[z03]; omega) (fun i (s:List (List Int))=>(((P.length:Int),(i:Int),()),(tb T,([]:List (List Int)),([]:List (List Int)),P,s,()))) (fun i t s=>((P,s++t.map (zgr T P),()),())) (fun i t s=>s.length≤i)
  [] rfl rfl (by simp) (by omega) (fun rec s h=>?_) (fun rec i x t s hat h hrec=>?_)
 ·dsimp only
  simp only[z00,decide_false,Bool.false_eq_true,if_false,List.map_nil,List.append_nil]
 ·obtain⟨j,c,rfl,hj,hc⟩:=hci x hat.mem
  have hilt:=hat.ltn
  obtain⟨l2,r0,r1⟩:=zic j c
  have k3:(0:Int)<((pl j c).length:Int):=by rw[l2]; omega
  have k4:(1:Int)<((pl j c).length:Int):=by rw[l2]; omega
  dsimp only
  simp only[hat.lt,hat.nn,hat.rd,k3,k4,r0,r1,Int.le_refl,decide_true,if_true,show (0:Int)≤1 from by omega]
  rw[(zmv hT hj (by omega)).2,Option.bind_some]
  obtain⟨q1,q2⟩:=z74 hT (c:=c) hj
  have hsc:sucs T (pl j c)=zc9 0 (z60 (z1b T j c)):=by unfold sucs; rw[z2s]
  generalize hr:z1b T j c=r at q1 q2 hsc
  obtain⟨a1,a2,a3,a4,⟨sq,D,⟨⟩⟩,⟨⟩⟩:=r
  dsimp only[z60] at q1 q2 hsc ⊢
  refine z06 P (by rw[z03]; omega) (fun k (s':List Int)=>((pl j c,(P.length:Int),(i:Int),(P.length:Int),(k:Int),()),(tb T,([]:List (List Int)),([]:List (List Int)),P,s,s',(sq,()),D,())))
   (fun k t' s'=>((P,s++(pl j c::t).map (zgr T P),()),())) (fun k t' s'=>s'=(ptsN k).filter fun q=>!same (P.getD q.toNat []) (pl j c)&&hasB (sucs T (pl j c)) (P.getD q.toNat [])) [] rfl rfl (by simp[ptsN]) (by omega) (fun rec2 s' h'=>?_) (fun rec2 k y t' s' hat2 h' hrec2=>?_)
  ·have e:s'=zgr T P (pl j c):=h'
   have hbd:((s.length+([s']:List (List Int)).length)*24≤140737488355328):=by simp only[List.length_cons,List.length_nil]; omega
   dsimp only
   simp only[z00,decide_false,Bool.false_eq_true,if_false,hbd,decide_true,if_true,hat.wrap]
   refine (hrec _ (by simp; omega)).trans ?_
   rw[e]; simp
  ·obtain⟨jy,cy,rfl,hjy,hcy⟩:=hci y hat2.mem
   have hkl:=hat2.ltn
   obtain⟨m2,m0,m1⟩:=zic jy cy
   have n3:(0:Int)<((pl jy cy).length:Int):=by rw[m2]; omega
   have n4:(1:Int)<((pl jy cy).length:Int):=by rw[m2]; omega
   have n5:(0:Int)≤(jy:Int):=by omega
   have n6:(jy:Int)<(D.length:Int):=by omega
   have hsl:s'.length≤k:=by
    rw[h']
    have:=List.length_filter_le (fun q:Int=>!same (P.getD q.toNat []) (pl j c)&&hasB (sucs T (pl j c)) (P.getD q.toNat [])) (ptsN k)
    rw[z5e] at this; exact this
   have hrec3:=fun s''=>hrec2 s''
   rw[z84,List.filter_append,←h'] at hrec3
   have hgk:P.getD (k:Int).toNat []=pl jy cy:=by rw[Int.toNat_natCast]; simp[List.getD,hat2.get]
   simp only[List.filter_cons,List.filter_nil,hgk] at hrec3
   have hin:hasB (sucs T (pl j c)) (pl jy cy)=decide (rd D (jy:Int) (0:Int)≥((cy+1:Nat):Int)):=by
    rw[Bool.eq_iff_iff,z4s,hsc,zr4 q2,decide_eq_true_iff,z6v]
    rw[Nat.sub_zero]
    exact⟨fun h=>h.2.2,fun h=>⟨Nat.zero_le _,by omega,h⟩⟩
   dsimp only
   simp only[hat2.lt,hat2.nn,hat2.rd,hat2.wrap,decide_true,if_true]
   rw[z9e _ _ (by rw[l2,z03]; omega) (by rw[m2,z03]; omega),Option.bind_some]
   have hsy:same (pl j c) (pl jy cy)=same (pl jy cy) (pl j c):=by
    rw[Bool.eq_iff_iff,z1c,z1c]; exact⟨Eq.symm,Eq.symm⟩
   dsimp only
   rw[hsy]
   cases hb:same (pl jy cy) (pl j c) with
   | true=>
    simp only[hb,Bool.not_true,Bool.false_and,Bool.false_eq_true,if_false,List.append_nil] at hrec3 ⊢
    exact hrec3 s' rfl
   | false=>
    simp only[hb,Bool.not_false,Bool.true_and,if_true,n3,n4,m0,m1,n5,n6,Int.le_refl,decide_true,show (0:Int)≤1 from by omega] at hrec3 ⊢
    rw[hin] at hrec3
    by_cases hle:((cy+1:Nat):Int)≤rd D (jy:Int) (0:Int)
    ·have hbd:((s'.length+([(k:Int)]:List Int).length)*8≤140737488355328):=by simp only[List.length_cons,List.length_nil]; omega
     simp only[ge_iff_le,hle,decide_true,if_true,hbd] at hrec3 ⊢
     exact hrec3 _ rfl
    ·simp only[ge_iff_le,hle,decide_false,Bool.false_eq_true,if_false,List.append_nil] at hrec3 ⊢
     exact hrec3 s' rfl
theorem zx0 {r:T7} (h:(z60 r).length≤5):z35 r=some ((r,()),()):=by
 obtain⟨a1,a2,a3,⟨b1,b2,b3,b4,b5,⟨⟩⟩,⟨sq,D,⟨⟩⟩,⟨⟩⟩:=r
 unfold z35 z64 z5i z5f
 dsimp only[z60] at h ⊢
 rw[zwy h]
 rfl
theorem zyk {r:T7} (h:(z60 r).length≤5):z2h r=some ((r,()),()):=by
 obtain⟨a1,a2,a3,⟨b1,b2,b3,b4,b5,⟨⟩⟩,⟨sq,D,⟨⟩⟩,⟨⟩⟩:=r
 unfold z2h z4r z47 z40
 dsimp only[z60] at h ⊢
 rw[zuf h]
 rfl
theorem GoodR.len5 {R:List (List T7)} (hR:GoodR R) {x:List T7} (hx:x∈R) {r:T7} (hr:r∈x):(z60 r).length≤5:=by rw[hR.len x hx r hr]; exact hR.five
theorem y0q {α:Type} (a:List α) (b c:α) (t:List α):(a++b::t).set a.length c=a++c::t:=zfy _ _ _ _
theorem y5t {α:Type} (a:List α) (b:α) (t:List α) (d:α):rd (a++b::t) (a.length:Int) d=b:=by rw[z6v]; simp[List.getD]
theorem y03 {R:List (List T7)} (hR:GoodR R):zan (tb R)=some ((tb R,()),()):=by
 unfold zan
 refine z0q 8 fun N hN=>?_
 unfold zec zff zed
 have h5:=hR.five
 have c0:(0:Int)≤(R.length:Int):=by omega
 have c1:((R.length:Int)==(R.length:Int))=true:=by simp
 have c2:(R.length:Int)*24≤140737488355328:=by omega
 dsimp only
 simp only[c0,c1,c2,decide_true,if_true,Option.bind_some]
 rw[Int.toNat_natCast]
 refine z06 R hR.max (fun j (s:List (List T7))=>((R,(R.length:Int),(j:Int),()),(tb R,((0:Int),()),s,((R.length:Int),()),()))) (fun j t s=>((tb R,()),()))
  (fun j t s=>s=R.take j++List.replicate t.length ([]:List T7)∧j+t.length=R.length∧R.drop j=t) (List.replicate R.length []) rfl rfl ⟨by simp,by simp,by simp⟩ (by omega) (fun rec s h=>?_) (fun rec j x t s hat h hrec=>?_)
 ·obtain⟨h1,h2,_⟩:=h
  dsimp only
  simp only[z00,decide_false,Bool.false_eq_true,if_false]
  rw[h1]
  simp
 ·obtain⟨h1,h2,h3⟩:=h
  rw[List.length_cons,List.replicate_succ] at h1
  have hxR:=hat.mem
  have hjl:=hat.ltn
  have h6:=hR.six x hxR
  have htl:(R.take j).length=j:=by simp; omega
  dsimp only
  simp only[hat.lt,hat.nn,hat.rd,decide_true,if_true]
  subst h1
  have hk:R.take (j+1)=R.take j++[x]:=by rw[List.take_add_one,hat.get]; rfl
  have hrec2:rec ((R,(R.length:Int),((j+1:Nat):Int),()),(tb R,((0:Int),()),R.take j++x::List.replicate t.length ([]:List T7),((R.length:Int),()),()))=some ((tb R,()),()):=by
   refine hrec _ ⟨by rw[hk,List.append_assoc]; rfl,by rw[List.length_cons] at h2; omega,?_⟩
   rw[←List.drop_drop,h3]; rfl
  refine z06 x (by rw[z03]; omega) (fun i (s:List (List T7))=>(((j:Int),R,(R.length:Int),(j:Int),x,(x.length:Int),(i:Int),()),(tb R,((0:Int),()),s,((R.length:Int),()),())))
   (fun i u s=>((tb R,()),())) (fun i u s=>s=R.take j++x.take i::List.replicate t.length ([]:List T7)) _ rfl rfl (by simp) (by omega) (fun rec2 s h=>?_) (fun rec2 i r u s hat2 h hrec3=>?_)
  ·dsimp only
   simp only[z00,decide_false,Bool.false_eq_true,if_false,hat.wrap]
   rw[h,List.take_length]
   exact hrec2
  ·have hil:=hat2.ltn
   have e1:∀ y:List T7,((R.take j++y::List.replicate t.length ([]:List T7)).length:Int)=(R.length:Int):=fun y=>by
    rw[List.length_append,htl,List.length_cons,List.length_replicate]; rw[List.length_cons] at h2; omega
   have e2:∀ y:List T7,rd (R.take j++y::List.replicate t.length ([]:List T7)) (j:Int) ([]:List T7)=y:=fun y=>by
    have:=y5t (R.take j) y (List.replicate t.length ([]:List T7)) []
    rwa [htl] at this
   have e3:∀ y z:List T7,(R.take j++y::List.replicate t.length ([]:List T7)).set (j:Int).toNat z=R.take j++z::List.replicate t.length ([]:List T7):=fun y z=>by
    have:=y0q (R.take j) y z (List.replicate t.length ([]:List T7))
    rwa [htl] at this
   have hbd:(((x.take i).length+([r]:List T7).length)*96≤140737488355328):=by simp; omega
   have hto:((j:Int)).toNat=j:=Int.toNat_natCast j
   have e3':=e3
   dsimp only
   subst h
   simp only[hat2.lt,hat2.nn,hat2.rd,hat2.wrap,hat.nn,hat.lt,e1,e2,decide_true,if_true]
   rw[zx0 (hR.len5 hxR hat2.mem),Option.bind_some]
   simp only[hbd,e3,e1,hat.lt,decide_true,if_true]
   refine hrec3 _ ?_
   rw[List.take_add_one,hat2.get]
   rfl
noncomputable def zfr (R:List (List T7)) (j:Nat):Nat→List T7→List T7
 | _,[]=>[]
 | i,r::t=>(if hasB (rdy R) (pl j i) then r else z8u R.length)::zfr R j (i+1) t
noncomputable def zdz (R:List (List T7)):Nat→List (List T7)→List (List T7)
 | _,[]=>[]
 | j,x::u=>zfr R j 0 x::zdz R (j+1) u
theorem zpp (R:List (List T7)) (j:Nat):∀ (i:Nat) (x:List T7),(zfr R j i x).length=x.length
 | _,[]=>rfl
 | i,r::t=>by simp[zfr,zpp R j (i+1) t]
theorem zpq (R:List (List T7)):∀ (j:Nat) (u:List (List T7)),(zdz R j u).length=u.length
 | _,[]=>rfl
 | j,x::u=>by simp[zdz,zpq R (j+1) u]
theorem zk5 (R:List (List T7)) (j:Nat):∀ (x:List T7) (i c:Nat),(zfr R j i x)[c]? = (x[c]?).map fun r=>if hasB (rdy R) (pl j (i+c)) then r else z8u R.length
 | [],i,c=>by simp[zfr]
 | r::t,i,0=>by simp[zfr]
 | r::t,i,c+1=>by
  unfold zfr
  rw[List.getElem?_cons_succ,List.getElem?_cons_succ,zk5 R j t (i+1) c,show i+1+c=i+(c+1) by omega]
theorem zk6 (R:List (List T7)):∀ (u:List (List T7)) (j k:Nat),(zdz R j u)[k]? = (u[k]?).map fun x=>zfr R (j+k) 0 x
 | [],j,k=>by simp[zdz]
 | x::u,j,0=>by simp[zdz]
 | x::u,j,k+1=>by
  unfold zdz
  rw[List.getElem?_cons_succ,List.getElem?_cons_succ,zk6 R u (j+1) k,show j+1+k=j+(k+1) by omega]
structure Thin (R T:List (List T7)):Prop where
 good:GoodR T
 len:T.length=R.length
 row:∀ j c,j<R.length→c<6→z1b T j c=if hasB (rdy R) (pl j c) then z1b R j c else z8u R.length
theorem zty {n:Nat} (h:n=3∨n=5):(z60 (z8u n)).length=n∧∀ b∈z60 (z8u n),0≤b∧b≤6:=by
 refine⟨by simp[z8u,ze0,z60],fun b hb=>?_⟩
 simp only[z8u,ze0,z60,List.mem_replicate] at hb
 omega
theorem zi7 {R:List (List T7)} (hR:GoodR R):Thin R (zdz R 0 R):=by
 have hl:=zpq R 0 R
 have hx:∀ x∈zdz R 0 R,∃ j y,R[j]? = some y∧x=zfr R j 0 y:=by
  intro x hx
  obtain⟨j,hj⟩:=List.getElem?_of_mem hx
  rw[zk6] at hj
  cases hy:R[j]? with
  | none=>rw[hy] at hj; cases hj
  | some y=>
   rw[hy,Option.map_some,Nat.zero_add] at hj
   exact⟨j,y,hy,(Option.some.inj hj).symm⟩
 have hr:∀ x∈zdz R 0 R,∀ r∈x,(z60 r).length=R.length∧∀ b∈z60 r,0≤b∧b≤6:=by
  intro x hx' r hr
  obtain⟨j,y,hy,rfl⟩:=hx x hx'
  obtain⟨c,hc⟩:=List.getElem?_of_mem hr
  rw[zk5] at hc
  have hyR:=List.mem_of_getElem? hy
  cases hz:y[c]? with
  | none=>rw[hz] at hc; cases hc
  | some z=>
   rw[hz,Option.map_some] at hc
   obtain rfl:=Option.some.inj hc
   have hzy:=List.mem_of_getElem? hz
   split
   ·exact⟨hR.len y hyR z hzy,hR.val y hyR z hzy⟩
   ·exact zty hR.n
 refine⟨⟨by rw[hl]; exact hR.n,fun x hx'=>?_,fun x hx' r hr'=>by rw[hl]; exact (hr x hx' r hr').1,fun x hx' r hr'=>(hr x hx' r hr').2⟩,hl,fun j c hj hc=>?_⟩
 ·obtain⟨j,y,hy,rfl⟩:=hx x hx'
  rw[zpp]; exact hR.six y (List.mem_of_getElem? hy)
 ·unfold z1b
  have hy:R[j]? = some R[j]:=List.getElem?_eq_getElem hj
  rw[show (zdz R 0 R).getD j []=zfr R j 0 R[j] by rw[List.getD_eq_getElem?_getD,zk6,hy]; simp,show R.getD j []=R[j] by simp[List.getD,hj],zk5,Nat.zero_add,hl]
  cases hz:R[j][c]? with
  | some r=>rfl
  | none=>simp
theorem y5s (R:List (List T7)):(rdy R).Pairwise ltI:=comR_pw.filter _
theorem Thin.rowOf {R T:List (List T7)} (h:Thin R T) {x:List Int} (hx:Ins R.length x):P.rowOf T x=if hasB (rdy R) x then P.rowOf R x else z8u R.length:=by
 obtain⟨j,c,rfl,hj,hc⟩:=hx
 rw[z2s,z2s]
 exact h.row j c hj hc
theorem Thin.com {R T:List (List T7)} (hR:GoodR R) (h:Thin R T):comR 0 T=rdy R:=by
 refine zwv zom comR_pw (y5s R) fun x=>?_
 rw[zm6 h.good,h.len]
 unfold comd
 constructor
 ·rintro⟨h1,h2⟩
  rw[h.rowOf h1] at h2
  split at h2
  ·rename_i hb
   exact z4s.1 hb
  ·simp[z8u] at h2
 ·intro hx
  have hi:=z63 hR x hx
  refine⟨hi,?_⟩
  rw[h.rowOf hi,if_pos (z4s.2 hx)]
  exact ((zm6 hR).1 (List.mem_filter.1 hx).1).2
theorem Thin.ready {R T:List (List T7)} (hR:GoodR R) (h:Thin R T) {x:List Int} (hx:x∈rdy R):P.rowOf T x=P.rowOf R x:=by
 rw[h.rowOf (z63 hR x hx),if_pos (z4s.2 hx)]
noncomputable def grR (R:List (List T7)):List (List Int):=(rdy R).map (zgr R (rdy R))
def keyX (R:List (List T7)) (x:List Int):Int:=100*(rowOf R x).2.2.2.2.1.1+10*x.getD 0 0+x.getD 1 0
noncomputable def keyR (R:List (List T7)):List Int:=(rdy R).map (keyX R)
noncomputable def ordR (R:List (List T7)):List (List Int):=(ordL (grR R) (keyR R)).map fun k=>(rdy R).getD k.toNat []
theorem Thin.gr {R T:List (List T7)} (hR:GoodR R) (h:Thin R T):grT T=grR R:=by
 unfold grT grR
 rw[h.com hR]
 refine List.map_congr_left fun x hx=>?_
 unfold zgr
 have:sucs T x=sucs R x:=by unfold sucs; rw[h.ready hR hx]
 rw[this]
theorem zni {R:List (List T7)} (hR:GoodR R):GG (grR R)∧∀ l∈grR R,l.length≤100:=by
 have:=y6o (zi7 hR).good
 rwa [(zi7 hR).gr hR] at this
def zrv (R:List (List T7)):Prop:=∀ x∈R,∀ r∈x,0≤r.2.2.2.2.1.1∧r.2.2.2.2.1.1≤999
theorem zkr {R:List (List T7)} (hs:zrv R) {j c:Nat}:0≤(z1b R j c).2.2.2.2.1.1∧(z1b R j c).2.2.2.2.1.1≤999:=by
 unfold z1b
 split
 ·rename_i r hr
  by_cases hj:j<R.length
  ·rw[show R.getD j []=R[j] by simp[List.getD,hj]] at hr
   exact hs _ (List.getElem_mem hj) _ (List.mem_of_getElem? hr)
  ·rw[show R.getD j []=[] by simp[List.getD,List.getElem?_eq_none (by omega:R.length≤j)]] at hr
   simp at hr
 ·simp[z8u,ze0]
theorem zle {R:List (List T7)} {j c:Nat}:keyX R (pl j c)=100*(z1b R j c).2.2.2.2.1.1+10*(j:Int)+((c+1:Nat):Int):=by
 unfold keyX; rw[z2s]; rfl
theorem zim {R:List (List T7)} (hR:GoodR R) (hs:zrv R):Keys (grR R) (keyR R):=by
 have hlen:(keyR R).length=(grR R).length:=by simp[keyR,grR]
 have hat:∀ p,Pt (grR R) p→∃ x,(rdy R)[p.toNat]? = some x∧kAt (keyR R) p=keyX R x:=by
  intro p hp
  have h0:=hp.lo
  have h1:=hp.hi
  have hl:(grR R).length=(rdy R).length:=by simp[grR]
  have:p.toNat<(rdy R).length:=by omega
  refine⟨(rdy R)[p.toNat],List.getElem?_eq_getElem this,?_⟩
  unfold kAt rd keyR
  rw[List.getD_eq_getElem?_getD,List.getElem?_map,List.getElem?_eq_getElem this]; rfl
 refine⟨hlen,fun k hk=>?_,fun p q hp hq he=>?_⟩
 ·obtain⟨x,hx,rfl⟩:=List.mem_map.1 hk
  obtain⟨j,c,rfl,hj,hc⟩:=z63 hR x hx
  rw[zle]
  have:=zkr hs (j:=j) (c:=c)
  have:=hR.five
  omega
 ·obtain⟨x,x1,x2⟩:=hat p hp
  obtain⟨y,y1,y2⟩:=hat q hq
  rw[x2,y2] at he
  obtain⟨j,c,rfl,hj,hc⟩:=z63 hR x (List.mem_of_getElem? x1)
  obtain⟨k,d,rfl,hk,hd⟩:=z63 hR y (List.mem_of_getElem? y1)
  rw[zle,zle] at he
  have h5:=hR.five
  have e1:j=k∧c=d:=by omega
  obtain⟨rfl,rfl⟩:=e1
  have hnd:(rdy R).Nodup:=(zfp R).sublist List.filter_sublist
  have a1:=List.getElem?_eq_some_iff.1 x1
  have a2:=List.getElem?_eq_some_iff.1 y1
  have:=(List.getElem_inj hnd).1 (a1.2.trans a2.2.symm)
  have:=hp.lo
  have:=hq.lo
  omega
theorem y9t {R:List (List T7)} (hR:GoodR R) {j c:Nat} (hc:c≤7):∃ k,z1u (rdy R) (pl j c)=some ((k,()),())∧decide (k<(0:Int))=!hasB (rdy R) (pl j c):=by
 obtain⟨k,h1,h2⟩:=(y2f hR j c hc).1
 refine⟨k,h1,?_⟩
 rw[←h2,Bool.eq_iff_iff]
 simp
theorem zfk {g:List (List Int)} (hg:GG g) {key:List Int} (hk:Keys g key):∀ p∈ordL g key,Pt g p:=by
 intro p hp
 obtain⟨c,hc,hpc⟩:=List.mem_flatMap.1 hp
 have hisc:=zm4 hg c hc
 exact (hisc.eq hg (((hisc.byK hg hk).2.1 p).1 hpc)).1
theorem zig {g:List (List Int)} (hg:GG g) {key:List Int} (hk:Keys g key):(ordL g key).Nodup:=by
 have main:∀ (k:Nat) (L:List (List Int)),(∀ c∈L,c∈grps g)→L.Nodup→((za9 g k L).flatMap (byK key)).Nodup:=by
  have hL:=zcb hg
  intro k
  induction k with
  | zero=>intro L _ _; simp[za9]
  | succ k ih=>
   intro L hs hn
   unfold za9
   split
   ·rename_i i hi
    have hil:i<L.length:=(List.findIdx?_eq_some_iff_getElem.1 hi).1
    have hgi:L[i]? = some L[i]:=List.getElem?_eq_getElem hil
    have hge:L.getD i []=L[i]:=by simp[List.getD,hil]
    rw[hge,List.flatMap_cons]
    have hm:∀ {x},x∈L.eraseIdx i↔x∈L∧x≠L[i]:=zet hn hgi
    have hci:=hs _ (List.getElem_mem hil)
    have hisc:=hL.isc _ hci
    obtain⟨b1,b2,_⟩:=hisc.byK hg hk
    refine List.nodup_append.2 ⟨?_,ih _ (fun c hc=>hs c (hm.1 hc).1) (hn.sublist (List.eraseIdx_sublist L i)),fun a ha b hb e=>?_⟩
    ·refine List.Pairwise.imp (fun {a b} h e=>?_) b1
     subst e
     have h:kAt key a<kAt key a:=h
     omega
    ·subst e
     obtain⟨d,hd,had⟩:=List.mem_flatMap.1 hb
     have hdE:=zm5 _ _ d hd
     obtain⟨hdL,hdne⟩:=hm.1 hdE
     have hisd:=hL.isc _ (hs d hdL)
     exact hdne (hL.same hg (hs d hdL) hci (((hisd.byK hg hk).2.1 a).1 had) ((b2 a).1 ha))
   ·simp
 exact main _ _ (fun c hc=>hc) (zcb hg).nd
theorem ztw {g:List (List Int)} (hg:GG g) {key:List Int} (hk:Keys g key):(ordL g key).length≤g.length:=by
 have:=za0 (m:=ptsN g.length) (zig hg hk) fun p hp=>(zfk hg hk p hp).mem
 rwa [z5e] at this
theorem zka {R:List (List T7)} (hR:GoodR R) (hs:zrv R):z7n (tb R)=some ((ordR R,()),()):=by
 unfold z7n
 refine z0q 42 fun N hN=>?_
 unfold zb4
 rw[zk9 hR,Option.bind_some,y03 hR,Option.bind_some]
 have h5:=hR.five
 have hth:=zi7 hR
 dsimp only
 refine zew R hR.max (fun j M (_:Unit)=>((rdy R,(R.length:Int),(j:Int),()),(tb R,([]:List (List Int)),M,((R.length:Int),()),()))) (fun dn t _=>((ordR R,()),()))
  (fun dn t _=>zdz R 0 R=dn++zdz R dn.length t∧dn.length+t.length=R.length∧∀ x∈t,x∈R) () rfl rfl ⟨rfl,by simp,fun x hx=>hx⟩ (by omega) (fun rec dn _ hdl h=>?_) (fun rec dn x t _ hat h hrec=>?_)
 ·obtain⟨h1,_,_⟩:=h
  rw[show zdz R dn.length []=[] from rfl,List.append_nil] at h1
  dsimp only
  rw[hdl]
  simp only[z00,decide_false,Bool.false_eq_true,if_false]
  rw[←h1]
  have hg1:=zo3 hth.good
  rw[hth.com hR,hth.gr hR] at hg1
  have e1:(((R.length:Int),zdz R 0 R,()):T8)=tb (zdz R 0 R):=by rw[tb,hth.len]
  rw[e1,hg1,Option.bind_some]
  obtain⟨gg,gl⟩:=zni hR
  have hks:=zim hR hs
  have hrl:=zoc hR
  have hri:=z63 hR
  have hol:=ztw gg hks
  have hop:=zfk gg hks
  have hgrl:(grR R).length=(rdy R).length:=by simp[grR]
  dsimp only
  refine z06 (rdy R) (by rw[z03]; omega) (fun i (s:List Int)=>((grR R,((rdy R).length:Int),(i:Int),()),(tb R,([]:List (List Int)),zdz R 0 R,((R.length:Int),()),rdy R,s,()))) (fun i t s=>((ordR R,()),()))
   (fun i t s=>s++t.map (keyX R)=keyR R∧s.length=i) [] rfl rfl ⟨rfl,rfl⟩ (by omega) (fun rec2 s h=>?_) (fun rec2 i x t s hat h hrec=>?_)
  ·obtain⟨h2,h3⟩:=h
   rw[List.map_nil,List.append_nil] at h2
   subst h2
   dsimp only
   simp only[z00,decide_false,Bool.false_eq_true,if_false]
   rw[zo0 gg gl hks,Option.bind_some]
   unfold ordR
   generalize ordL (grR R) (keyR R)=O at hol hop
   dsimp only
   refine z06 O (by rw[z03]; omega) (fun i (s:List (List Int))=>(((O.length:Int),(i:Int),()),(tb R,([]:List (List Int)),zdz R 0 R,((R.length:Int),()),rdy R,keyR R,s,O,()))) (fun i t s=>((s++t.map (fun k=>(rdy R).getD k.toNat []),()),()))
    (fun i t s=>s.length≤i) [] rfl rfl (by simp) (by omega) (fun rec3 s h=>?_) (fun rec3 i p t s hat h hrec=>?_)
   ·dsimp only
    simp only[z00,decide_false,Bool.false_eq_true,if_false,List.map_nil,List.append_nil]
   ·have hp:=hop p hat.mem
    have p0:=hp.lo
    have p1:p<((rdy R).length:Int):=by rw[←hgrl]; exact hp.hi
    have hil:=hat.ltn
    have hbd:((s.length+([(rd (rdy R) p ([]:List Int))]:List (List Int)).length)*24≤140737488355328):=by simp only[List.length_cons,List.length_nil]; omega
    dsimp only
    simp only[hat.lt,hat.nn,hat.rd,hat.wrap,p0,p1,hbd,decide_true,if_true]
    refine (hrec _ (by simp; omega)).trans ?_
    rw[List.append_assoc]; rfl
  ·obtain⟨h2,h3⟩:=h
   obtain⟨j,c,rfl,hj,hc⟩:=hri x hat.mem
   have hilt:=hat.ltn
   obtain⟨l2,r0,r1⟩:=zic j c
   have k3:(0:Int)<((pl j c).length:Int):=by rw[l2]; omega
   have k4:(1:Int)<((pl j c).length:Int):=by rw[l2]; omega
   dsimp only
   simp only[hat.lt,hat.nn,hat.rd,hat.wrap,k3,k4,r0,r1,Int.le_refl,decide_true,if_true,show (0:Int)≤1 from by omega]
   rw[(zmv hR hj (by omega)).1,Option.bind_some]
   have hsq:=zkr hs (j:=j) (c:=c)
   have w1:IntKind.i64.wrap ((100:Int)*(z1b R j c).2.2.2.2.1.1)=100*(z1b R j c).2.2.2.2.1.1:=z0b (by omega) (by omega)
   have w2:IntKind.i64.wrap ((10:Int)*(j:Int))=10*(j:Int):=z0b (by omega) (by omega)
   have w3:IntKind.i64.wrap (100*(z1b R j c).2.2.2.2.1.1+10*(j:Int))=100*(z1b R j c).2.2.2.2.1.1+10*(j:Int):=z0b (by omega) (by omega)
   have w4:IntKind.i64.wrap (100*(z1b R j c).2.2.2.2.1.1+10*(j:Int)+((c+1:Nat):Int))=keyX R (pl j c):=by rw[zle]; exact z0b (by omega) (by omega)
   have hbd:((s.length+([keyX R (pl j c)]:List Int).length)*8≤140737488355328):=by simp only[List.length_cons,List.length_nil]; omega
   dsimp only
   simp only[w1,w2,w3,w4,hbd,decide_true,if_true]
   refine hrec _ ⟨?_,by simp; omega⟩
   rw[List.append_assoc]; exact h2
 ·obtain⟨h1,h2,h3⟩:=h
  have hxR:=h3 x (by simp)
  have hx6:=hR.six x hxR
  rw[List.length_cons] at h2
  have hlt:(dn.length:Int)<(R.length:Int):=by omega
  have hl2:∀ xs:List T7,((dn++xs::t).length:Int)=(R.length:Int):=fun xs=>by simp; omega
  dsimp only
  simp only[hlt,hat.lt,hat.nn,hat.rd,decide_true,if_true]
  refine zew x (by rw[z03]; omega) (fun i xs (_:Unit)=>((rdy R,(dn.length:Int),(R.length:Int),(dn.length:Int),(x.length:Int),(i:Int),()),(tb R,([]:List (List Int)),dn++xs::t,((R.length:Int),()),()))) (fun d2 t2 _=>((ordR R,()),()))
   (fun d2 t2 _=>zfr R dn.length 0 x=d2++zfr R dn.length d2.length t2∧d2.length+t2.length=x.length) () rfl rfl ⟨rfl,by simp⟩ (by omega) (fun rec2 d2 _ hd2 h=>?_) (fun rec2 d2 r t2 _ hat2 h hrec2=>?_)
  ·obtain⟨h4,_⟩:=h
   rw[show zfr R dn.length d2.length []=[] from rfl,List.append_nil] at h4
   have hw:IntKind.i64.wrap ((dn.length:Int)+1)=((dn.length+1:Nat):Int):=by rw[z0b (by omega) (by omega)]; omega
   dsimp only
   rw[hd2]
   simp only[z00,decide_false,Bool.false_eq_true,if_false,hw]
   refine hrec d2 () ⟨?_,by simp; omega,fun y hy=>h3 y (by simp[hy])⟩
   rw[h1,←h4,List.length_append,List.length_singleton,List.append_assoc]
   rfl
  ·obtain⟨h4,h6⟩:=h
   rw[List.length_cons] at h6
   have hl:(d2.length:Int)<(x.length:Int):=by omega
   have hw:IntKind.i64.wrap ((d2.length:Int)+1)=((d2.length+1:Nat):Int):=by rw[z0b (by omega) (by omega)]; omega
   obtain⟨k,k1,k2⟩:=y9t hR (j:=dn.length) (c:=d2.length) (by omega)
   have hpl:([(dn.length:Int),((d2.length+1:Nat):Int)]:List Int)=pl dn.length d2.length:=rfl
   dsimp only
   simp only[hl,hw,decide_true,if_true]
   rw[hpl,k1,Option.bind_some]
   dsimp only
   rw[k2]
   rw[show zfr R dn.length d2.length (r::t2)=(if hasB (rdy R) (pl dn.length d2.length) then r else z8u R.length)::zfr R dn.length (d2.length+1) t2 from rfl] at h4
   have hrec3:=fun b' hb=>hrec2 b' () ⟨hb,by simp; omega⟩
   cases hb:hasB (rdy R) (pl dn.length d2.length) with
   | true=>
    simp only[hb,if_true] at h4
    simp only[Bool.not_true,Bool.false_eq_true,if_false]
    refine hrec3 r ?_
    rw[h4,List.append_assoc,List.length_append]; rfl
   | false=>
    simp only[hb,Bool.false_eq_true,if_false] at h4
    have m1:(0:Int)≤(dn.length:Int):=by omega
    have m2:(dn.length:Int)<((dn++(d2++r::t2)::t).length:Int):=by rw[hl2]; exact hlt
    have m3:rd (dn++(d2++r::t2)::t) (dn.length:Int) ([]:List T7)=d2++r::t2:=y5t _ _ _ _
    have m4:(0:Int)≤(d2.length:Int):=by omega
    have m5:(d2.length:Int)<((d2++r::t2).length:Int):=by simp; omega
    simp only[Bool.not_false,if_true,m1,m2,decide_true]
    rw[zaz hR.grp,Option.bind_some]
    simp only[m3,m4,m5,decide_true,if_true,Int.toNat_natCast,y0q]
    refine hrec3 (z8u R.length) ?_
    rw[h4,List.append_assoc,List.length_append]; rfl
structure Upto (R:List (List T7)) (D:List (List Int)) (M:List (List T7)):Prop where
 good:GoodR M
 len:M.length=R.length
 row:∀ j c,j<R.length→c<6→z1b M j c=if hasB D (pl j c) then z1b R j c else z8u R.length
theorem zr5 {M:List (List T7)} (h:GoodR M) {j:Nat} {y:List T7} (hy:y.length≤6) (hr:∀ r∈y,(z60 r).length=M.length∧∀ b∈z60 r,0≤b∧b≤6):GoodR (M.set j y):=by
 have hm:∀ x∈M.set j y,x∈M∨x=y:=fun x hx=>List.mem_or_eq_of_mem_set hx
 refine⟨by rw[List.length_set]; exact h.n,fun x hx=>?_,fun x hx r hr'=>?_,fun x hx r hr'=>?_⟩
 ·rcases hm x hx with hx | rfl
  ·exact h.six x hx
  ·exact hy
 ·rw[List.length_set]
  rcases hm x hx with hx | rfl
  ·exact h.len x hx r hr'
  ·exact (hr r hr').1
 ·rcases hm x hx with hx | rfl
  ·exact h.val x hx r hr'
  ·exact (hr r hr').2
theorem zqd {M:List (List T7)} {j k c:Nat} {y:List T7} (hj:j<M.length):z1b (M.set j y) k c=if k=j then (match y[c]? with | some r=>r | none=>z8u M.length) else z1b M k c:=by
 unfold z1b
 rw[List.length_set]
 by_cases e:k=j
 ·subst e
  rw[if_pos rfl,show (M.set k y).getD k []=y by simp[List.getD,hj]]
  all_goals (cases y[c]?<;>rfl)
 ·rw[if_neg e,show (M.set j y).getD k []=M.getD k [] by simp[List.getD,List.getElem?_set_ne (fun h=>e h.symm)]]
theorem zks {M:List (List T7)} {j c:Nat} (hj:j<M.length):z1b M j c=match M[j][c]? with | some r=>r | none=>z8u M.length:=by
 unfold z1b
 rw[show M.getD j []=M[j] by simp[List.getD,hj]]
 all_goals (cases M[j][c]?<;>rfl)
theorem Upto.ext {R:List (List T7)} {D:List (List Int)} {M:List (List T7)} (h:Upto R D M) {j:Nat} (hj:j<M.length) (hl:M[j].length<6):Upto R D (M.set j (M[j]++[z8u R.length])):=by
 have hjm:=List.getElem_mem hj
 refine⟨zr5 h.good (by simp; omega) fun r hr=>?_,by rw[List.length_set]; exact h.len,fun k c hk hc=>?_⟩
 ·rcases List.mem_append.1 hr with hr | hr
  ·exact⟨h.good.len _ hjm r hr,h.good.val _ hjm r hr⟩
  ·rw[List.mem_singleton] at hr
   subst hr
   have:=zty h.good.n
   rw[h.len] at this ⊢
   exact this
 ·rw[←h.row k c hk hc,zqd hj]
  by_cases e:k=j
  ·subst e
   rw[if_pos rfl,zks hj]
   by_cases h1:c<M[k].length
   ·rw[List.getElem?_append_left h1]
   ·rw[List.getElem?_append_right (by omega),List.getElem?_eq_none (show M[k].length≤c by omega),h.len]
    cases hd:([z8u (R.length:Int)]:List T7)[c - M[k].length]? with
    | none=>rfl
    | some r=>
     have:=List.mem_of_getElem? hd
     rw[List.mem_singleton] at this
     rw[this]
  ·rw[if_neg e]
theorem Upto.put {R:List (List T7)} (hR:GoodR R) {D:List (List Int)} {M:List (List T7)} (h:Upto R D M) {j c:Nat} (hj:j<M.length) (hc:c<M[j].length):Upto R (D++[pl j c]) (M.set j (M[j].set c (z1b R j c))):=by
 have hjm:=List.getElem_mem hj
 have hjR:j<R.length:=by rw[←h.len]; exact hj
 refine⟨zr5 h.good (by rw[List.length_set]; exact h.good.six _ hjm) fun r hr=>?_,by rw[List.length_set]; exact h.len,fun k d hk hd=>?_⟩
 ·rcases List.mem_or_eq_of_mem_set hr with hr | rfl
  ·exact⟨h.good.len _ hjm r hr,h.good.val _ hjm r hr⟩
  ·rw[h.len]; exact z74 hR hjR
 ·have hb:hasB (D++[pl j c]) (pl k d)=(hasB D (pl k d)||same (pl k d) (pl j c)):=by rw[zjx,zjw]
  rw[zqd hj,hb]
  by_cases e:k=j
  ·subst e
   rw[if_pos rfl]
   by_cases e2:d=c
   ·subst e2
    rw[List.getElem?_set_self hc,z1c.2 rfl,Bool.or_true,if_pos rfl]
   ·have hn:same (pl k d) (pl k c)=false:=by
     cases hs:same (pl k d) (pl k c) with
     | false=>rfl
     | true=>exact absurd (ztu (z1c.1 hs)).2 e2
    rw[List.getElem?_set_ne (fun h=>e2 h.symm),hn,Bool.or_false,←h.row k d hk hd,zks hj]
  ·have hn:same (pl k d) (pl j c)=false:=by
    cases hs:same (pl k d) (pl j c) with
    | false=>rfl
    | true=>exact absurd (ztu (z1c.1 hs)).1 e
   rw[if_neg e,hn,Bool.or_false,←h.row k d hk hd]
theorem Upto.start {R:List (List T7)} (hR:GoodR R):Upto R [] (List.replicate R.length []):=by
 have hm:∀ x∈List.replicate R.length ([]:List T7),x=[]:=fun x hx=>(List.mem_replicate.1 hx).2
 refine⟨⟨by simpa using hR.n,fun x hx=>by rw[hm x hx]; simp,fun x hx r hr=>by rw[hm x hx] at hr; simp at hr,fun x hx r hr=>by rw[hm x hx] at hr; simp at hr⟩,by simp,fun j c hj hc=>?_⟩
 rw[zks (by simpa using hj)]
 simp[hasB]
set_option maxHeartbeats 1000000 in
theorem zgp {R:List (List T7)} (hR:GoodR R) (hs:zrv R):z43 (tb R)=some ((ordR R,()),()):=by
 unfold z43
 refine z0q 42 fun N hN=>?_
 unfold z68 zaa z9v
 have h5:=hR.five
 have c0:(0:Int)≤(R.length:Int):=by omega
 have c1:((R.length:Int)==(R.length:Int))=true:=by simp
 have c2:(R.length:Int)*24≤140737488355328:=by omega
 dsimp only
 simp only[c0,c1,c2,decide_true,if_true,Option.bind_some]
 rw[Int.toNat_natCast,zow hR,Option.bind_some]
 have hri:=z63 hR
 have hrl:=zoc hR
 dsimp only
 refine z06 (rdy R) (by rw[z03]; omega) (fun i (M:List (List T7))=>((((rdy R).length:Int),(i:Int),()),(tb R,([]:List (List Int)),M,((R.length:Int),()),rdy R,()))) (fun i t M=>((ordR R,()),()))
  (fun i t M=>Upto R ((rdy R).take i) M) (List.replicate R.length []) rfl rfl (by rw[List.take_zero]; exact Upto.start hR) (by omega) (fun rec M h=>?_) (fun rec i x t M hat h hrec=>?_)
 ·rw[List.take_length] at h
  have hth:Thin R M:=⟨h.good,h.len,h.row⟩
  dsimp only
  simp only[z00,decide_false,Bool.false_eq_true,if_false]
  have hg1:=zoy hth.good
  rw[hth.com hR,hth.gr hR] at hg1
  have e1:(((R.length:Int),M,()):T8)=tb M:=by rw[tb,hth.len]
  rw[e1,hg1,Option.bind_some]
  obtain⟨gg,gl⟩:=zni hR
  have hks:=zim hR hs
  have hol:=ztw gg hks
  have hop:=zfk gg hks
  have hon:=zig gg hks
  have hgrl:(grR R).length=(rdy R).length:=by simp[grR]
  dsimp only
  refine z06 (rdy R) (by rw[z03]; omega) (fun i (s:List Int)=>((((rdy R).length:Int),(i:Int),()),(tb R,([]:List (List Int)),M,((R.length:Int),()),rdy R,rdy R,grR R,s,()))) (fun i t s=>((ordR R,()),()))
   (fun i t s=>s++t.map (keyX R)=keyR R∧s.length=i) [] rfl rfl ⟨rfl,rfl⟩ (by omega) (fun rec2 s h=>?_) (fun rec2 i x t s hat h hrec=>?_)
  ·obtain⟨h2,h3⟩:=h
   rw[List.map_nil,List.append_nil] at h2
   subst h2
   dsimp only
   simp only[z00,decide_false,Bool.false_eq_true,if_false]
   rw[zox gg gl hks,Option.bind_some]
   unfold ordR
   generalize ordL (grR R) (keyR R)=O at hol hop hon
   dsimp only
   refine z06 O (by rw[z03]; omega) (fun i (s:List (Option (List Int))×List (List Int))=>(((O.length:Int),(i:Int),()),(tb R,([]:List (List Int)),M,((R.length:Int),()),rdy R,s.1,grR R,keyR R,s.2,O,()))) (fun i t s=>((s.2++t.map (fun k=>(rdy R).getD k.toNat []),()),()))
    (fun i t s=>s.2.length≤i∧t.Nodup∧s.1.length=(rdy R).length∧∀ p∈t,s.1.getD p.toNat none=some ((rdy R).getD p.toNat [])) ((rdy R).map some,[]) rfl rfl ⟨by simp,hon,by simp,fun p hp=>?_⟩ (by omega) (fun rec3 s h=>?_) (fun rec3 i p t s hat h hrec=>?_)
   ·have hp:=hop p hp
    have p0:=hp.lo
    have p1:=hp.hi
    have:p.toNat<(rdy R).length:=by omega
    simp[List.getD,this]
   ·dsimp only
    simp only[z00,decide_false,Bool.false_eq_true,if_false,List.map_nil,List.append_nil]
   ·obtain⟨ys,s⟩:=s
    obtain⟨h4,h5,h6,h7⟩:=h
    dsimp only at h4 h6 h7
    obtain⟨n1,n2⟩:=List.nodup_cons.1 h5
    have hp:=hop p hat.mem
    have p0:=hp.lo
    have p1:p<(ys.length:Int):=by have:=hp.hi; omega
    have hil:=hat.ltn
    have hg:=h7 p (by simp)
    have hbd:((s.length+([(rdy R).getD p.toNat []]:List (List Int)).length)*24≤140737488355328):=by simp only[List.length_cons,List.length_nil]; omega
    dsimp only
    simp only[hat.lt,hat.nn,hat.rd,hat.wrap,p0,p1,hg,Option.bind_some,hbd,decide_true,if_true]
    refine (hrec (ys.set p.toNat none,s++[(rdy R).getD p.toNat []]) ⟨by simp; omega,n2,by rw[List.length_set]; exact h6,fun q hq=>?_⟩).trans ?_
    ·have hq':=hop q (by
      have:=hat.drop
      exact List.mem_of_mem_drop (i:=i) (by rw[this]; simp[hq]))
     have hne:¬p.toNat=q.toNat:=by
      have:=hq'.lo
      intro e
      have:p=q:=by omega
      exact n1 (this▸hq)
     rw[←h7 q (by simp[hq])]
     simp[List.getD,List.getElem?_set_ne hne]
    ·dsimp only
     rw[List.append_assoc]; rfl
  ·obtain⟨h2,h3⟩:=h
   have hxr:=hat.mem
   obtain⟨j,c,rfl,hj,hc⟩:=hri x hat.mem
   have hilt:=hat.ltn
   obtain⟨l2,r0,r1⟩:=zic j c
   have k3:(0:Int)<((pl j c).length:Int):=by rw[l2]; omega
   have k4:(1:Int)<((pl j c).length:Int):=by rw[l2]; omega
   have hro:z1b M j c=z1b R j c:=by
    have:=hth.ready hR hxr
    rwa [z2s,z2s] at this
   dsimp only
   simp only[hat.lt,hat.nn,hat.rd,hat.wrap,k3,k4,r0,r1,Int.le_refl,decide_true,if_true,show (0:Int)≤1 from by omega]
   have e1:(((R.length:Int),M,()):T8)=tb M:=by rw[tb,hth.len]
   rw[e1,(zmv hth.good (by rw[hth.len]; exact hj) (by omega)).2,Option.bind_some,hro]
   have hsq:=zkr hs (j:=j) (c:=c)
   have w1:IntKind.i64.wrap ((100:Int)*(z1b R j c).2.2.2.2.1.1)=100*(z1b R j c).2.2.2.2.1.1:=z0b (by omega) (by omega)
   have w2:IntKind.i64.wrap ((10:Int)*(j:Int))=10*(j:Int):=z0b (by omega) (by omega)
   have w3:IntKind.i64.wrap (100*(z1b R j c).2.2.2.2.1.1+10*(j:Int))=100*(z1b R j c).2.2.2.2.1.1+10*(j:Int):=z0b (by omega) (by omega)
   have w4:IntKind.i64.wrap (100*(z1b R j c).2.2.2.2.1.1+10*(j:Int)+((c+1:Nat):Int))=keyX R (pl j c):=by rw[zle]; exact z0b (by omega) (by omega)
   have hbd:((s.length+([keyX R (pl j c)]:List Int).length)*8≤140737488355328):=by simp only[List.length_cons,List.length_nil]; omega
   dsimp only
   simp only[w1,w2,w3,w4,hbd,decide_true,if_true]
   refine hrec _ ⟨?_,by simp; omega⟩
   rw[List.append_assoc]; exact h2
 ·obtain⟨j,c,rfl,hj,hc⟩:=hri x hat.mem
  have hilt:=hat.ltn
  obtain⟨l2,r0,r1⟩:=zic j c
  have k3:(0:Int)<((pl j c).length:Int):=by rw[l2]; omega
  have k4:(1:Int)<((pl j c).length:Int):=by rw[l2]; omega
  dsimp only
  simp only[hat.lt,hat.nn,hat.rd,k3,k4,r0,r1,Int.le_refl,decide_true,if_true,show (0:Int)≤1 from by omega]
  rw[(zmv hR hj (by omega)).2,Option.bind_some]
  have hrd5:(z60 (z1b R j c)).length≤5:=by rw[(z74 hR hj).1]; exact h5
  have hcop:=zyk hrd5
  have hput:=fun {M} (h:Upto R ((rdy R).take i) M) (hjm:j<M.length) (hcm:c<M[j].length)=>h.put hR hjm hcm
  have htk:(rdy R).take (i+1)=(rdy R).take i++[pl j c]:=by rw[List.take_add_one,hat.get]; rfl
  rw[←htk] at hput
  generalize z1b R j c=r at hcop hput
  obtain⟨a1,a2,a3,⟨b1,b2,b3,b4,b5,⟨⟩⟩,⟨sq,D,⟨⟩⟩,⟨⟩⟩:=r
  dsimp only
  refine z1o 8 (fun k (M:List (List T7))=>(((j:Int),((c+1:Nat):Int),((rdy R).length:Int),(i:Int),true,(j:Int),((c+1:Nat):Int),(j:Int),((c+1:Nat):Int),()),(tb R,([]:List (List Int)),M,((R.length:Int),()),rdy R,D,(a1,a2,a3,b1,b2,b3,b4,b5,sq,()),()))) (fun k M=>((ordR R,()),()))
   (fun k M=>Upto R ((rdy R).take i) M∧k≤(M.getD j []).length) M rfl rfl ⟨h,Nat.zero_le _⟩ (by omega) (fun rec2 k M hk hI hrec2=>?_)
  obtain⟨h,hkl⟩:=hI
  have hjm:j<M.length:=by rw[h.len]; exact hj
  have hgM:M.getD j []=M[j]:=by simp[List.getD,hjm]
  rw[hgM] at hkl
  have h6:=h.good.six _ (List.getElem_mem hjm)
  have m1:(0:Int)≤(j:Int):=by omega
  have m2:(j:Int)<(M.length:Int):=by omega
  have m3:rd M (j:Int) ([]:List T7)=M[j]:=by rw[z6v]; exact hgM
  dsimp only
  simp only[m1,m2,m3,decide_true,if_true]
  by_cases hlt:M[j].length<c+1
  ·have n1:(M[j].length:Int)<((c+1:Nat):Int):=by omega
   simp only[n1,decide_true,if_true]
   rw[z8v hR.grp,Option.bind_some]
   have n2:((M[j].length+([((0:Int),(0:Int),(0:Int),((0:Int),(0:Int),(0:Int),(0:Int),(0:Int),()),ze0 (R.length:Int),())]:List T7).length)*96≤140737488355328):=by simp only[List.length_cons,List.length_nil]; omega
   have n3:(j:Int)<((M.set (j:Int).toNat (M[j]++([((0:Int),(0:Int),(0:Int),((0:Int),(0:Int),(0:Int),(0:Int),(0:Int),()),ze0 (R.length:Int),())]:List T7))).length:Int):=by rw[List.length_set]; exact m2
   simp only[n2,n3,decide_true,if_true]
   rw[Int.toNat_natCast]
   refine hrec2 (by omega) (M.set j (M[j]++[z8u R.length])) ⟨h.ext hjm (by omega),?_⟩
   rw[show (M.set j (M[j]++[z8u R.length])).getD j []=M[j]++[z8u R.length] by simp[List.getD,hjm]]
   simp; omega
  ·have n1:¬(M[j].length:Int)<((c+1:Nat):Int):=by omega
   have hw:IntKind.i64.wrap (((c+1:Nat):Int) - 1)=(c:Int):=by rw[z0b (by omega) (by omega)]; omega
   have n2:(0:Int)≤(c:Int):=by omega
   have n3:(c:Int)<(M[j].length:Int):=by omega
   simp only[n1,decide_false,Bool.false_eq_true,if_false]
   rw[hcop,Option.bind_some]
   simp only[hw,n2,n3,hat.wrap,decide_true,if_true,Int.toNat_natCast]
   exact hrec _ (hput h hjm (by omega))
theorem zxa {n:Nat} {x y:List Int} (hx:Ins n x) (hy:Ins n y) (hne:x≠y):ltI x y∨ltI y x:=by
 obtain⟨j,c,rfl,_,_⟩:=hx
 obtain⟨k,d,rfl,_,_⟩:=hy
 unfold ltI
 rw[(zg0 j c).1,(zg0 k d).1,(zg0 j c).2,(zg0 k d).2]
 have:¬(j=k∧c=d):=fun ⟨a,b⟩=>hne (by rw[a,b])
 omega
theorem zxu {x y:List Int}:gtI y x=true↔ltI x y:=by
 unfold gtI ltI
 simp only[Bool.or_eq_true,Bool.and_eq_true,decide_eq_true_eq,beq_iff_eq]
 constructor<;>intro h<;>rcases h with h | ⟨h1,h2⟩
 ·exact .inl (by omega)
 ·exact .inr ⟨by omega,by omega⟩
 ·exact .inl (by omega)
 ·exact .inr ⟨by omega,by omega⟩
theorem y04 {x z:List Int} {r:List (List Int)}:z∈insR x r↔z=x∨z∈r:=by
 rw[(zlh x r).mem_iff,List.mem_cons]
theorem zxm {n:Nat} {x:List Int} (hx:Ins n x):∀ {r:List (List Int)},(∀ y∈r,Ins n y∧y≠x)→r.Pairwise (fun a b=>ltI b a)→(insR x r).Pairwise (fun a b=>ltI b a)
 | [],_,_=>by simp[insR]
 | y::r,hr,h=>by
  obtain⟨h1,h2⟩:=List.pairwise_cons.1 h
  obtain⟨hy,hne⟩:=hr y (by simp)
  unfold insR
  split
  ·rename_i hgt
   refine List.pairwise_cons.2 ⟨fun z hz=>?_,zxm hx (fun z hz=>hr z (by simp[hz])) h2⟩
   rcases y04.1 hz with rfl | hz
   ·exact zxu.1 hgt
   ·exact h1 z hz
  ·rename_i hgt
   have hlt:ltI y x:=(zxa hy hx hne).resolve_right fun h'=>hgt (zxu.2 h')
   refine List.pairwise_cons.2 ⟨fun z hz=>?_,h⟩
   rcases List.mem_cons.1 hz with rfl | hz
   ·exact hlt
   ·have h3:=h1 z hz
    unfold ltI at h3 hlt ⊢
    omega
theorem zqw {n:Nat}:∀ (l s:List (List Int)),(∀ x∈l,Ins n x)→(∀ x∈s,Ins n x)→l.Nodup→(∀ x∈l,x∉s)→s.Pairwise ltI→(l.foldl insL s).Pairwise ltI
 | [],s,_,_,_,_,h=>h
 | x::l,s,hl,hs,hn,hd,h=>by
  obtain⟨n1,n2⟩:=List.nodup_cons.1 hn
  have hx:=hl x (by simp)
  refine zqw l (insL s x) (fun y hy=>hl y (by simp[hy])) (fun y hy=>?_) n2 (fun y hy hm=>?_) ?_
  ·rcases List.mem_cons.1 ((zli s x).mem_iff.1 hy) with rfl | hy
   ·exact hx
   ·exact hs y hy
  ·rcases List.mem_cons.1 ((zli s x).mem_iff.1 hm) with rfl | hm
   ·exact n1 hy
   ·exact hd y (by simp[hy]) hm
  ·unfold insL
   rw[List.pairwise_reverse]
   refine zxm hx (fun y hy=>⟨hs y (List.mem_reverse.1 hy),fun e=>?_⟩) (by rw[List.pairwise_reverse]; exact h)
   subst e
   exact hd y (by simp) (List.mem_reverse.1 hy)
theorem zzf {n:Nat} {l:List (List Int)} (hl:∀ x∈l,Ins n x) (hn:l.Nodup) (hlen:l.length≤100):zab cmpF l=some (z89 l):=by
 have hlt:∀ x∈l,∀ y∈l,(cmpL x y<0↔ltI x y):=fun x hx y hy=>by
  have:=zhs (hl x hx) (hl y hy)
  unfold zfv at this
  rw[zpb (hl x hx) (hl y hy)] at this
  have:=decide_eq_decide.1 this
  exact this
 obtain⟨ys,y1,y2,y3⟩:=zkh (p:=cmpF) (R:=ltI) (xs:=l) (fun x hx y hy=>⟨cmpL x y,zpb (hl x hx) (hl y hy),hlt x hx y hy⟩) (fun x _ h=>zom x x h h)
  (fun x _ y _ z _ h1 h2=>by unfold ltI at h1 h2 ⊢; omega) (fun x hx y hy hne=>zxa (hl x hx) (hl y hy) hne) hn (by omega)
 rw[y1]
 congr 1
 exact zwv zom y3 (zqw l [] hl (by simp) hn (by simp) List.Pairwise.nil) fun x=>(y2 x).trans (za5 l).mem_iff.symm
def cmdX (R:List (List T7)) (x:List Int):T2:=(rowOf R x).2.2.2.1
def y71 (R:List (List T7)):Prop:=∀ x∈R,∀ r∈x,(r.2.2.1==(3:Int))=true→gcmd r.2.2.2.1=true
theorem zwu {R:List (List T7)} (hR:GoodR R) (hc:y71 R) {x:List Int} (hx:x∈rdy R):gcmd (cmdX R x)=true:=by
 have hi:=z63 hR x hx
 have hcom:=((zm6 hR).1 (List.mem_filter.1 hx).1).2
 obtain⟨j,c,rfl,hj,hcc⟩:=hi
 unfold comd at hcom
 unfold cmdX
 rw[z2s] at hcom ⊢
 unfold z1b at hcom ⊢
 rw[show R.getD j []=R[j] by simp[List.getD,hj]] at hcom ⊢
 split at hcom
 ·rename_i r hr
  exact hc _ (List.getElem_mem hj) r (List.mem_of_getElem? hr) hcom
 ·simp[z8u] at hcom
theorem ze4 {t:T8} (h:z8e t=true):zrv t.2.1∧y71 t.2.1:=by
 simp only[z8e,Bool.and_eq_true,beq_iff_eq,List.all_eq_true] at h
 obtain⟨hg,hn,hall⟩:=h
 have hx:∀ x∈t.2.1,∀ r∈x,zjh t.1 r=true:=fun x hx r hr=>by
  have:=hall x hx
  simp only[zhr,Bool.and_eq_true,decide_eq_true_eq,List.all_eq_true] at this
  exact this.2 r hr
 refine⟨fun x hx' r hr=>?_,fun x hx' r hr h3=>?_⟩
 ·have hr:=hx x hx' r hr
  simp only[zjh,Bool.and_eq_true] at hr
  have hr:=hr.2.2.2
  have:zal t.1 r.2.2.2.2.1=true:=by
   split at hr
   ·simp only[Bool.and_eq_true] at hr
    exact zma hg _ hr.2.2
   ·simp only[Bool.and_eq_true] at hr
    exact hr.2
  simp only[zal,Bool.and_eq_true] at this
  have:=zov.1 this.1
  exact this
 ·have hr:=hx x hx' r hr
  simp only[zjh,Bool.and_eq_true] at hr
  have hr:=hr.2.2.2
  have h0:(r.2.2.1==(0:Int))=false:=by
   have:r.2.2.1=3:=by simpa using h3
   rw[this]; rfl
  rw[h0] at hr
  simp only[Bool.false_eq_true,if_false,Bool.and_eq_true] at hr
  exact hr.1
theorem zjt {R:List (List T7)} (hR:GoodR R) (hs:zrv R) {x:List Int} (hx:x∈ordR R):x∈rdy R:=by
 unfold ordR at hx
 obtain⟨k,hk,rfl⟩:=List.mem_map.1 hx
 have hp:=zfk (zni hR).1 (zim hR hs) k hk
 have h0:=hp.lo
 have h1:k<((rdy R).length:Int):=by have:=hp.hi; simpa[grR] using this
 have:k.toNat<(rdy R).length:=by omega
 rw[show (rdy R).getD k.toNat []=(rdy R)[k.toNat] by simp[List.getD,this]]
 exact List.getElem_mem this
theorem zna {R:List (List T7)} (hR:GoodR R) (hs:zrv R):(ordR R).Nodup:=by
 unfold ordR
 refine zhm (zig (zni hR).1 (zim hR hs)) fun p hp q hq e=>?_
 have hp':=zfk (zni hR).1 (zim hR hs) p hp
 have hq':=zfk (zni hR).1 (zim hR hs) q hq
 have p0:=hp'.lo
 have q0:=hq'.lo
 have p1:p<((rdy R).length:Int):=by have:=hp'.hi; simpa[grR] using this
 have q1:q<((rdy R).length:Int):=by have:=hq'.hi; simpa[grR] using this
 have a:p.toNat<(rdy R).length:=by omega
 have b:q.toNat<(rdy R).length:=by omega
 rw[show (rdy R).getD p.toNat []=(rdy R)[p.toNat] by simp[List.getD,a],show (rdy R).getD q.toNat []=(rdy R)[q.toNat] by simp[List.getD,b]] at e
 have hnd:(rdy R).Nodup:=(zfp R).sublist List.filter_sublist
 have:=(List.getElem_inj hnd).1 e
 omega
theorem zoi {R:List (List T7)} (hR:GoodR R) (hs:zrv R):(ordR R).length≤30:=by
 have h1:=za0 (m:=rdy R) (zna hR hs) fun x hx=>zjt hR hs hx
 have:=zoc hR
 omega
def y0f (R:List (List T7)):List (List Int)→List Int→List T4
 | [],_=>[]
 | x::t,s=>(x.getD 0 0,x.getD 1 0,cmdX R x,zmh s (cmdX R x),())::y0f R t (zji s (cmdX R x))
def zpt (R:List (List T7)) (l:List (List Int)) (s:List Int):List Int:=(zmo (l.map (cmdX R)) s).1
theorem zn2 (R:List (List T7)) (x:List Int) (t:List (List Int)) (s:List Int):zpt R (x::t) s=zpt R t (zji s (cmdX R x)):=rfl
theorem zps (R:List (List T7)):∀ (l:List (List Int)) (s:List Int),(zpt R l s).length=s.length
 | [],_=>rfl
 | x::t,s=>by rw[zn2,zps R t,zl4]
theorem zln {R:List (List T7)} (hR:GoodR R) {L:List (List Int)} (hL:∀ x∈L,Ins R.length x) (hg:∀ x∈L,gcmd (cmdX R x)=true) (hl:L.length≤60) {s:List Int} (h4:s.length=4):
  z33 (tb R) L s=some ((y0f R L s,()),(zpt R L s,())):=by
 unfold z33
 refine z0q 62 fun N hN=>?_
 unfold z4y
 have h5:=hR.five
 refine z06 L (by rw[z03]; omega) (fun i (q:List Int×List T4)=>((L,(L.length:Int),(i:Int),()),(q.1,tb R,([]:List T4),q.2,()))) (fun i t q=>((q.2++y0f R t q.1,()),(zpt R t q.1,())))
  (fun i t q=>q.1.length=4∧q.2.length≤i) (s,[]) rfl rfl ⟨h4,by simp⟩ (by omega) (fun rec q h=>?_) (fun rec i x t q hat h hrec=>?_)
 ·dsimp only
  simp only[z00,decide_false,Bool.false_eq_true,if_false]
  simp[y0f,zpt,zmo]
 ·obtain⟨h1,h2⟩:=h
  have hgx:=hg x hat.mem
  obtain⟨j,c,rfl,hj,hc⟩:=hL x hat.mem
  have hilt:=hat.ltn
  obtain⟨l2,r0,r1⟩:=zic j c
  have k3:(0:Int)<((pl j c).length:Int):=by rw[l2]; omega
  have k4:(1:Int)<((pl j c).length:Int):=by rw[l2]; omega
  dsimp only
  simp only[hat.lt,hat.nn,hat.rd,hat.wrap,k3,k4,r0,r1,Int.le_refl,decide_true,if_true,show (0:Int)≤1 from by omega]
  rw[(zmv hR hj (by omega)).2,Option.bind_some]
  have hcx:cmdX R (pl j c)=(z1b R j c).2.2.2.1:=by unfold cmdX; rw[z2s]
  rw[hcx] at hgx
  dsimp only
  rw[zoz h1 hgx,Option.bind_some]
  have hbd:((q.2.length+([((j:Int),((c+1:Nat):Int),(z1b R j c).2.2.2.1,zmh q.1 (z1b R j c).2.2.2.1,())]:List T4).length)*72≤140737488355328):=by simp only[List.length_cons,List.length_nil]; omega
  dsimp only
  simp only[hbd,decide_true,if_true]
  refine (hrec (zji q.1 (z1b R j c).2.2.2.1,q.2++[((j:Int),((c+1:Nat):Int),(z1b R j c).2.2.2.1,zmh q.1 (z1b R j c).2.2.2.1,())]) ⟨by rw[zl4]; exact h1,by simp; omega⟩).trans ?_
  dsimp only
  rw[zn2,hcx,List.append_assoc]
  congr 3
noncomputable def zi0 (t:T8) (m:Int):T1×Bool×Unit:=
 if z8e t then (if inn m 0 ((ordR t.2.1).length:Int) then ((z89 ((ordR t.2.1).take m.toNat),zpt t.2.1 ((ordR t.2.1).take m.toNat) [100,100,100,100],()),true,()) else (([],[],()),false,())) else (([],[],()),false,())
theorem zke (t:T8) (hl:WL.wl t) (m:Int):z5b t m=some (zi0 t m,()):=by
 unfold z5b
 refine z0q 62 fun N hN=>?_
 unfold zbc zi0
 rw[zi8 t hl,Option.bind_some]
 dsimp only
 cases h:z8e t with
 | false=>simp
 | true=>
  obtain⟨ht,hR⟩:=zp2 h
  obtain⟨hs,hcm⟩:=ze4 h
  generalize t.2.1=R at ht hR hs hcm
  subst ht
  simp only[Bool.not_true,Bool.false_eq_true,if_false,if_true]
  rw[zka hR hs,Option.bind_some]
  have hol:=zoi hR hs
  have hom:=fun x hx=>zjt hR hs (x:=x) hx
  dsimp only
  rw[z49,Option.bind_some]
  dsimp only
  cases hin:inn m 0 ((ordR R).length:Int) with
  | false=>simp
  | true=>
   obtain⟨m0,m1⟩:=zov.1 hin
   simp only[Bool.not_true,Bool.false_eq_true,if_false,m0,m1,Int.le_refl,decide_true,if_true]
   have e0:((ordR R).take m.toNat).drop (0:Int).toNat=(ordR R).take m.toNat:=by simp
   rw[e0]
   have hLm:∀ x∈(ordR R).take m.toNat,x∈rdy R:=fun x hx=>hom x (List.mem_of_mem_take hx)
   have hLl:((ordR R).take m.toNat).length≤30:=by rw[List.length_take]; omega
   generalize (ordR R).take m.toNat=L at hLm hLl
   refine z06 L (by rw[z03]; omega) (fun i (q:List (List Int)×List T2)=>((L,(L.length:Int),(i:Int),()),(tb R,(()),(q.1,()),q.2,()))) (fun i u q=>(((z89 L,zpt R L [100,100,100,100],()),true,()),()))
    (fun i u q=>q.1=z89 (L.take i)∧q.2=(L.take i).map (cmdX R)) ([],[]) rfl rfl ⟨by simp[z89],by simp⟩ (by omega) (fun rec q h=>?_) (fun rec i x u q hat h hrec=>?_)
   ·obtain⟨h1,h2⟩:=h
    rw[List.take_length] at h1 h2
    dsimp only
    simp only[z00,decide_false,Bool.false_eq_true,if_false]
    rw[h1,h2,zq0 (by rw[List.length_map]; omega) fun c hc=>?_]
    ·rfl
    ·obtain⟨x,hx,rfl⟩:=List.mem_map.1 hc
     exact zwu hR hcm (hLm x hx)
   ·obtain⟨q1,q2⟩:=q
    obtain⟨h1,h2⟩:=h
    dsimp only at h1 h2
    have hxr:=hLm x hat.mem
    obtain⟨j,c,rfl,hj,hc⟩:=z63 hR x hxr
    have hilt:=hat.ltn
    obtain⟨l2,r0,r1⟩:=zic j c
    have k3:(0:Int)<((pl j c).length:Int):=by rw[l2]; omega
    have k4:(1:Int)<((pl j c).length:Int):=by rw[l2]; omega
    have htk:L.take (i+1)=L.take i++[pl j c]:=by rw[List.take_add_one,hat.get]; rfl
    have hq1:q1.length=i:=by rw[h1,zc6,List.length_take]; omega
    have hq2:q2.length=i:=by rw[h2,List.length_map,List.length_take]; omega
    have hpl:([(j:Int),((c+1:Nat):Int)]:List Int)=pl j c:=rfl
    dsimp only
    simp only[hat.lt,hat.nn,hat.rd,hat.wrap,k3,k4,r0,r1,Int.le_refl,decide_true,if_true,show (0:Int)≤1 from by omega]
    rw[hpl,zdr (n:=R.length) (by rw[h1]; exact zin fun x hx=>z63 hR x (hLm x (List.mem_of_mem_take hx))) ⟨j,c,rfl,hj,hc⟩ (by omega),Option.bind_some]
    rw[(zmv hR hj (by omega)).1,Option.bind_some]
    have hbd:((q2.length+([(z1b R j c).2.2.2.1]:List T2).length)*40≤140737488355328):=by simp only[List.length_cons,List.length_nil]; omega
    dsimp only
    simp only[hbd,decide_true,if_true]
    refine hrec (insL q1 (pl j c),q2++[(z1b R j c).2.2.2.1]) ⟨?_,?_⟩
    ·rw[htk,zlk,←h1]
    ·rw[htk,List.map_append,←h2]
     show _=q2++[cmdX R (pl j c)]
     unfold cmdX
     rw[z2s]
theorem zlq (t:T8) (hl:WL.wl t) (m:Int):z3w t m=some (zi0 t m,()):=by
 unfold z3w zbm zi0
 rw[zip t hl,Option.bind_some]
 dsimp only
 cases h:z8e t with
 | false=>simp
 | true=>
  obtain⟨ht,hR⟩:=zp2 h
  obtain⟨hs,hcm⟩:=ze4 h
  generalize t.2.1=R at ht hR hs hcm
  subst ht
  simp only[Bool.not_true,Bool.false_eq_true,if_false,if_true]
  rw[zgp hR hs,Option.bind_some]
  have hol:=zoi hR hs
  have hon:=zna hR hs
  have hom:=fun x hx=>zjt hR hs (x:=x) hx
  dsimp only
  rw[z2z,Option.bind_some]
  dsimp only
  cases hin:inn m 0 ((ordR R).length:Int) with
  | false=>simp
  | true=>
   obtain⟨m0,m1⟩:=zov.1 hin
   simp only[Bool.not_true,Bool.false_eq_true,if_false,m0,m1,Int.le_refl,decide_true,if_true]
   have e0:((ordR R).take m.toNat).drop (0:Int).toNat=(ordR R).take m.toNat:=by simp
   rw[e0]
   have hLm:∀ x∈(ordR R).take m.toNat,x∈rdy R:=fun x hx=>hom x (List.mem_of_mem_take hx)
   have hLl:((ordR R).take m.toNat).length≤30:=by rw[List.length_take]; omega
   have hLn:((ordR R).take m.toNat).Nodup:=hon.sublist (List.take_sublist _ _)
   generalize (ordR R).take m.toNat=L at hLm hLl hLn
   rw[zlo,Option.bind_some]
   dsimp only
   rw[zln hR (fun x hx=>z63 hR x (hLm x hx)) (fun x hx=>zwu hR hcm (hLm x hx)) (by omega) rfl,Option.bind_some]
   have hso:=zzf (fun x hx=>z63 hR x (hLm x hx)) hLn (by omega)
   unfold cmpF at hso
   rw[hso]
   rfl
theorem law_CheckAt (t:T8) (m:Int) (hl:WL.wl t) (N:Nat):z4a N t m=some ((true,()),()):=by
 unfold z4a
 rw[zz6 _ _ (by omega) (by omega) hl]
 refine y1j (by omega) rfl fun hn r hr=>?_
 have hc:Cnt.cnt t≤1048576:=Int.ofNat_le.1 hn
 obtain⟨D,S,ok,z1,z2,z3,e1,e2⟩:∃ (D:List (List Int)) (S:List Int) (ok:Bool),D.length≤30∧(∀ d∈D,d.length≤2)∧S.length≤4∧z3w t m=some (((D,S,()),ok,()),())∧z5b t m=some (((D,S,()),ok,()),()):=by
  rw[zlq t hl,zke t hl]
  unfold zi0
  cases hb:z8e t with
  | false=>exact⟨[],[],false,by simp,by simp,by simp,rfl,rfl⟩
  | true=>
   obtain⟨_,hR⟩:=zp2 hb
   obtain⟨hs,_⟩:=ze4 hb
   cases hin:inn m 0 ((ordR t.2.1).length:Int) with
   | false=>exact⟨[],[],false,by simp,by simp,by simp,rfl,rfl⟩
   | true=>
    refine⟨_,_,true,?_,fun d hd=>?_,?_,rfl,rfl⟩
    ·rw[zc6,List.length_take]
     have:=zoi hR hs
     omega
    ·have hd:=List.mem_of_mem_take ((za5 _).mem_iff.1 hd)
     rw[(z63 hR d (zjt hR hs hd)).len]; exact Nat.le_refl _
    ·rw[zps]; simp
 have hD:WL.wl D:=⟨by rw[z03]; omega,fun d hd=>zk4 d (by have:=z2 d hd; rw[z03]; omega)⟩
 have hS:WL.wl S:=zk4 S (by rw[z03]; omega)
 have hw:WL.wl ((D,S,()):T1):=⟨hD,hS,trivial⟩
 have hsum:z0t List.length D≤2*D.length:=by
  clear hD hw z1 e1 e2
  induction D with
  | nil=>simp[z0t]
  | cons d D ih=>
   have:=z2 d (by simp)
   have:=ih (fun d hd=>z2 d (by simp[hd]))
   simp only[z0t,List.length_cons]; omega
 obtain⟨D',m1,m2⟩:=zsr D 1 hD (by omega) (by omega)
 obtain⟨S',m3,m4⟩:=marks_IntS S (1+(z0t List.length D:Int)) hS (by omega) (by omega)
 have p1:decide ((1:Int)+(z0t List.length D:Int)<0)=false:=decide_eq_false (by omega)
 have p2:decide ((1:Int)+(z0t List.length D:Int)+(S.length:Int)<0)=false:=decide_eq_false (by omega)
 have q1:z5l (D,S,()) 1=some ((1+(z0t List.length D:Int)+(S.length:Int),()),((D',S',()),())):=by
  unfold z5l z8l
  simp only[m1,m3,Option.bind_some]
 have q2:z3q (D',S',()) 1=some ((1+(z0t List.length D:Int)+(S.length:Int),()),()):=by
  unfold z3q z8m
  simp only[m2,m4,Option.bind_some,p1,p2,Bool.false_eq_true,if_false]
 have hc2:Cnt.cnt t.2.1≤1048576:=by
  obtain⟨a,R,⟨⟩⟩:=t
  simp only[z6g,z6h,z4h] at hc
  show Cnt.cnt R≤_
  omega
 have hc3:t.2.1.length+z0t Cnt.cnt t.2.1≤1048576:=hc2
 have hu:=zn1 t.2.1
 have q3:z5k t 1=some ((1+(ze3 t.2.1:Int),()),((t.1,zz0 1 t.2.1,()),())):=by
  unfold z5k z8k
  rw[zv1 hl.2.1 (by omega) (by omega)]
  rfl
 have p3:decide ((1:Int)+(ze3 t.2.1:Int)<0)=false:=decide_eq_false (by omega)
 simp only[hr,zz4 t hc,Option.bind_some,e1,e2,y0a t t hl hl,y0d _ _ hw hw,zh7,q1,q2,q3,p2,p3,bne_self_eq_false,Bool.not_true,Bool.false_eq_true,if_false]
end Go.AM.P
