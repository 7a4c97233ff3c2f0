/- Regions, in the order of the text. No condition. -/
import Derived.Test.YtdcbankajhnepaaGreatAmLoop
set_option linter.unusedVariables false
set_option linter.unusedSimpArgs false
namespace Go.AM
structure Inv (r f:Nat) (st:St):Prop where
 ro:st.ro=r
 fx:st.fx=f
 rl:r≤st.objs.length
 fl:f≤st.objs.length
theorem Inv.step {r f:Nat} {st st':St} {E:Env} {cb:CB} {o:Oper} {c:Nat} (h:Inv r f st) (hs:(step E cb st o).run some=some (st',c)):Inv r f st':=by
 obtain⟨h1,h2,h3⟩:=zpv hs
 have:=h.rl; have:=h.fl
 exact⟨h1.trans h.ro,h2.trans h.fx,by omega,by omega⟩
theorem zoo {α:Type} {l:List α} {i:Nat} {d v:α} (h:l.getD i d=v):l.set i v=l:=by
 apply List.ext_getElem?
 intro k
 by_cases hk:i=k
 ·subst hk
  by_cases hl:i<l.length
  ·rw[List.getElem?_set_self hl]
   simp only[List.getD,List.getElem?_eq_getElem hl,Option.getD_some] at h
   rw[List.getElem?_eq_getElem hl,h]
  ·rw[List.set_eq_of_length_le (by omega)]
 ·rw[List.getElem?_set_ne hk]
theorem zto {ρ:Type} {src:Bool} {st:St} {d:Option Tmp} {K:St→Option ρ}:split src st d K=K st:=by
 unfold split
 cases src
 ·rfl
 simp only[if_true]
 cases d with
 | none=>rfl
 | some t=>
  simp only
  split
  ·rename_i b L hr
   have:∀ v,st.reg t=v→st.put (some t) v=st:=by
    intro v hv
    show { st with regs:=st.regs.set t v }=st
    rw[zoo (show st.regs.getD t (SV.one .undef)=v from hv)]
   cases b
   ·simp only[Bool.false_eq_true,if_false]; rw[this _ hr]
   ·simp only[if_true]; rw[this _ hr]
  ·rfl
section
variable {C:Ctx} {st:St} {gh:Gh} {a:Act} {w:World}
theorem z97 {ops:Array Oper} {o:Oper} (h:Rel C st gh a w) {b:Bool} (hg:z1a ops.toList st o=some b):Region.wanted o (yielded ops a.tmps)=b:=by
 unfold z1a at hg
 unfold Region.wanted
 split at hg
 ·rename_i hn
  simp only[Option.some.injEq] at hg
  simp[hn,hg]
 ·rename_i j want hn
  split at hg
  ·rename_i p hp
   split at hg
   ·rename_i d hd
    have hp':ops[j]? = some p:=by rw[←hp]; simp
    have hy:yielded ops a.tmps j=match a.tmps[d]? with | some (.bool b)=>some b | _=>none:=by
     unfold yielded
     rw[hp']
     simp only[Option.bind_some,hd]
     rcases a.tmps[d]? with _ | u
     ·rfl
     ·cases u<;>rfl
    have hr:=h.regs d
    split at hg
    ·rename_i c L hc
     rw[hc] at hr
     have hv:=zc4 hr
     have:a.tmps[d]? = some (.bool c):=by
      cases ht:a.tmps[d]? with
      | none=>simp[Array.getD_eq_getD_getElem?,ht,undef] at hv
      | some u=>simp[Array.getD_eq_getD_getElem?,ht] at hv; rw[hv]
     simp only[Option.some.injEq] at hg
     simp only[hn,hy,this]
     rw[←hg]
     rfl
    ·rename_i hc
     rw[hc] at hr
     have hv:a.tmps.getD d undef=undef:=hr.1
     simp only[Option.some.injEq] at hg
     simp only[hn,hy]
     rw[←hg]
     cases ht:a.tmps[d]? with
     | none=>rfl
     | some u=>
      simp only[Array.getD_eq_getD_getElem?,ht,Option.getD_some] at hv
      subst hv
      rfl
    ·cases hg
   ·cases hg
  ·cases hg
theorem zwh (h:Rel C st gh a w) (d:Option Tmp):Rel C (st.put d (.one .skip)) gh (a.put d undef) w:=h.put ⟨rfl,fun hk=>by simp[Leaf.known] at hk⟩
end
end Go.AM
