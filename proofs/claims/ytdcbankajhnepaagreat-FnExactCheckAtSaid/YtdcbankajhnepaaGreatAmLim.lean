/- Limits of runs by fuel, and rules for loops over data. No condition. -/
import Derived.Test.YtdcbankajhnepaaGreatAmLaw
import Derived.IntWalk
set_option linter.unusedVariables false
set_option linter.unusedSimpArgs false
namespace Go.AM
noncomputable def lim {α:Type} (f:Nat→Option α):Option α:=
 open Classical in if h:∃ v,∃ b,∀ N,b≤N→f N=some v then some h.choose else none
theorem z0q {α:Type} {f:Nat→Option α} {v:α} (b:Nat) (h:∀ N,b≤N→f N=some v):lim f=some v:=by
 unfold lim
 have hx:∃ v,∃ b,∀ N,b≤N→f N=some v:=⟨v,b,h⟩
 rw[dif_pos hx]
 obtain⟨c,hc⟩:=hx.choose_spec
 have h1:=hc (max b c) (Nat.le_max_right _ _)
 rw[h _ (Nat.le_max_left _ _)] at h1
 rw[h1]
theorem z0d {α:Type} {f:Nat→Option α} {v:α} (h:lim f=some v):∃ N,f N=some v:=by
 unfold lim at h
 split at h
 ·rename_i hx
  simp only[Option.some.injEq] at h
  obtain⟨b,hb⟩:=hx.choose_spec
  exact⟨b,by rw[hb b (Nat.le_refl b),h]⟩
 ·cases h
theorem zgm {σ α ρ:Type} {body:(α→Option ρ)→α→Option ρ} (n:Nat) (mk:Nat→σ→α) (F:Nat→σ→ρ) (I:Nat→σ→Prop)
  (step:∀ rec i s,i≤n→I i s→(i<n→∀ s',I (i+1) s'→rec (mk (i+1) s')=some (F (i+1) s'))→body rec (mk i s)=some (F i s)):
  ∀ (N i:Nat) (s:σ),i≤n→I i s→n - i<N→z0i N body (mk i s)=some (F i s)
 | 0,_,_,_,_,h=>by omega
 | N+1,i,s,hi,hs,h=>step _ i s hi hs fun hlt s' hs'=>zgm n mk F I step N (i+1) s' (by omega) hs' (by omega)
structure At {β:Type} (l:List β) (i:Nat) (b:β) (t:List β):Prop where
 lt:(i:Int)<(l.length:Int)
 nn:(0:Int)≤(i:Int)
 ltn:i<l.length
 drop:l.drop i=b::t
 get:l[i]? = some b
 rd:∀ d,rd l (i:Int) d=b
 mem:b∈l
 wrap:IntKind.i64.wrap ((i:Int)+1)=((i+1:Nat):Int)
theorem z0b {n:Int} (h:-9223372036854775808≤n) (h':n≤9223372036854775807):IntKind.i64.wrap n=n:=by
 rw[IntKind.wrap_i64]; omega
theorem z6v {β:Type} (l:List β) (i:Nat) (d:β):rd l (i:Int) d=l.getD i d:=rfl
theorem At.of {β:Type} {l:List β} (hl:l.length≤maxLen) {i:Nat} {b:β} {t:List β} (h:l.drop i=b::t):At l i b t:=by
 have hi:i<l.length:=by
  rcases Nat.lt_or_ge i l.length with h1 | h1
  ·exact h1
  ·rw[List.drop_eq_nil_of_le h1] at h; cases h
 have hg:l[i]? = some b:=by
  have:=congrArg (fun x=>x[0]?) h
  simpa using this
 refine⟨by omega,by omega,hi,h,hg,fun d=>?_,List.mem_of_getElem? hg,?_⟩
 ·rw[z6v,List.getD_eq_getElem?_getD,hg]; rfl
 ·have:i<2 ^ 63 - 1:=Nat.lt_of_lt_of_le hi hl
  rw[z0b]<;>omega
theorem zv2 {β σ α ρ:Type} {body:(α→Option ρ)→α→Option ρ} (l:List β) (hl:l.length≤maxLen) (mk:Nat→σ→α) (G:Nat→List β→σ→ρ) (I:Nat→List β→σ→Prop)
  (nil:∀ rec s,I l.length [] s→body rec (mk l.length s)=some (G l.length [] s))
  (cons:∀ rec i b t s,At l i b t→I i (b::t) s→(∀ s',I (i+1) t s'→rec (mk (i+1) s')=some (G (i+1) t s'))→body rec (mk i s)=some (G i (b::t) s)):
  ∀ (N:Nat) (s:σ),I 0 l s→l.length<N→z0i N body (mk 0 s)=some (G 0 l s):=by
 intro N s hs hN
 have:=zgm (body:=body) l.length mk (fun i s=>G i (l.drop i) s) (fun i s=>I i (l.drop i) s) (fun rec i s hi hI hrec=>by
  rcases Nat.lt_or_ge i l.length with h1 | h1
  ·have hd:=List.drop_eq_getElem_cons h1
   rw[hd] at hI ⊢
   exact cons rec i _ _ s (At.of hl hd) hI fun s' hs'=>hrec h1 s' hs'
  ·obtain rfl:i=l.length:=by omega
   rw[List.drop_length] at hI ⊢
   exact nil rec s hI) N 0 s (Nat.zero_le _) (by simpa using hs) (by omega)
 simpa using this
theorem z06 {β σ α ρ:Type} {body:(α→Option ρ)→α→Option ρ} {N:Nat} {x:α} {v:ρ} (l:List β) (hl:l.length≤maxLen) (mk:Nat→σ→α) (G:Nat→List β→σ→ρ) (I:Nat→List β→σ→Prop)
  (s:σ) (hx:mk 0 s=x) (hv:G 0 l s=v) (hI:I 0 l s) (hN:l.length<N)
  (nil:∀ rec s,I l.length [] s→body rec (mk l.length s)=some (G l.length [] s))
  (cons:∀ rec i b t s,At l i b t→I i (b::t) s→(∀ s',I (i+1) t s'→rec (mk (i+1) s')=some (G (i+1) t s'))→body rec (mk i s)=some (G i (b::t) s)):
  z0i N body x=some v:=by
 subst hx; subst hv
 exact zv2 l hl mk G I nil cons N s hI hN
theorem z1o {σ α ρ:Type} {body:(α→Option ρ)→α→Option ρ} {N:Nat} {x:α} {v:ρ} (n:Nat) (mk:Nat→σ→α) (F:Nat→σ→ρ) (I:Nat→σ→Prop)
  (s:σ) (hx:mk 0 s=x) (hv:F 0 s=v) (hI:I 0 s) (hN:n<N)
  (step:∀ rec i s,i≤n→I i s→(i<n→∀ s',I (i+1) s'→rec (mk (i+1) s')=some (F (i+1) s'))→body rec (mk i s)=some (F i s)):
  z0i N body x=some v:=by
 subst hx; subst hv
 exact zgm n mk F I step N 0 s (Nat.zero_le _) hI (by omega)
theorem z00 (n:Nat):((n:Int)<(n:Int))=False:=by simp
theorem zfy {β:Type} (xs ys:List β) (b c:β):(xs++b::ys).set xs.length c=xs++c::ys:=by
 simp
def zi3 (a0:List Int) (a1:Int):Option ((List Int×Unit)×Unit):=
 match a0 with
 | [v]=>if decide (0≤a1)&&decide (a1≤9) then some ((List.replicate a1.toNat v,()),()) else none
 | _=>none
theorem zvn {P:Int→Int→(List Int×Unit)×Unit→Prop} (h:∀ v,∀ n:Nat,n<10→P v n ((List.replicate n v,()),())):∀ (x:List Int×Int×Unit) y,zi3 x.1 x.2.1=some y→∃ v,x.1=[v]∧P v x.2.1 y:=by
 intro x y hs
 unfold zi3 at hs
 split at hs
 ·rename_i v hx
  split at hs
  ·rename_i hc
   simp only[Bool.and_eq_true,decide_eq_true_eq] at hc
   simp only[Option.some.injEq] at hs
   subst hs
   refine⟨v,hx,?_⟩
   obtain⟨n,hn⟩:=Int.eq_ofNat_of_zero_le hc.1
   rw[hn]
   exact h v n (by omega)
  ·cases hs
 ·cases hs
theorem z03:maxLen=9223372036854775807:=by decide
end Go.AM
