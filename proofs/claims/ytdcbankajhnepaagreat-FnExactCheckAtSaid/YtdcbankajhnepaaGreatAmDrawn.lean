/- What runs draws on. No condition. -/
import Derived.Test.YtdcbankajhnepaaGreatAmDefs
set_option linter.unusedVariables false
set_option linter.unusedSimpArgs false
namespace Go.AM
theorem zys {α:Type}:∀ (k:Ask α) (w:World),w.drawn≤(w.ask k).2.drawn:=by
 intro k
 induction k with
 | done a=>intro w; exact Nat.le_refl _
 | ask what range k ih=>
  intro w
  simp only[World.ask]
  split
  ·exact ih _ _
  ·exact Nat.le_trans (Nat.le_succ _) (ih _ { w with drawn:=w.drawn+1 })
theorem zw5 (c:Sys) (w:World):w.drawn≤(w.sys c).2.drawn:=by
 unfold World.sys
 have:=zys (Kernel.perform c w.os) w
 split
 ·exact Nat.le_refl _
 ·rename_i h
  rw[h] at this
  exact this
theorem zuj {P:Program} {w w2:World} {at_:Addr} {u:TypeId} {k:Addr} {v:Value} {b:Bool} {l:List Addr} (h:w.viewStore P at_ u k v b=.ok (w2,l)):w2.drawn=w.drawn:=by
 unfold World.viewStore at h
 simp only[bind,Except.bind,pure,Except.pure,throw,throwThe,MonadExceptOf.throw] at h
 repeat' split at h
 all_goals first | (cases h; done) | (simp only[Except.ok.injEq,Prod.mk.injEq] at h; obtain⟨rfl,_⟩:=h; rfl)
theorem zxz {P:Program} {w w2:World} {a:Addr} {v:Value} {b:Bool} {l:List Addr} (h:w.farStore P a v b=.ok (w2,l)):w2.drawn=w.drawn:=by
 unfold World.farStore at h
 split at h
 ·split at h
  ·rename_i r hr
   simp only[Except.ok.injEq] at h
   subst h
   exact zuj hr
  ·cases h
 ·cases h
theorem zkm {α:Type} {P:Program}:∀ (s:Sem α) {w w':World} {x:α},s.run P w=.ok x w'→w.drawn≤w'.drawn:=by
 intro s
 induction s with
 | pure a=>intro w w' x h; simp only[Sem.run,Result.ok.injEq] at h; rw[h.2]; exact Nat.le_refl _
 | load m a k ih=>intro w w' x h; simp only[Sem.run] at h; (repeat' split at h)<;>first | exact ih _ h | cases h
 | store m a v k ih=>
  intro w w' x h
  cases v<;>simp only[Sem.run] at h<;>(repeat' split at h)<;>first | exact ih (w:=w.setCell a _) h | (cases h; done) | skip
  all_goals (rename_i hf; have h1:=zxz hf; have h2:=ih h; omega)
 | new o k ih=>intro w w' x h; simp only[Sem.run] at h; exact ih _ (w:={ w with heap:=w.heap.push o }) h
 | shape r k ih=>intro w w' x h; simp only[Sem.run] at h; exact ih _ h
 | freeze a n k ih=>intro w w' x h; simp only[Sem.run] at h; have h1:=ih h; have e:(w.freeze a n).drawn=w.drawn:=(by unfold World.freeze; split<;>rfl); omega
 | frozen a k ih=>intro w w' x h; simp only[Sem.run] at h; exact ih _ h
 | getObj r k ih=>intro w w' x h; simp only[Sem.run] at h; (repeat' split at h)<;>first | exact ih _ h | cases h
 | setObj r o k ih=>intro w w' x h; simp only[Sem.run] at h; (repeat' split at h)<;>first | exact ih (w:={ w with heap:=w.heap.setIfInBounds r o }) h | cases h
 | choose q k ih=>
  intro w w' x h
  simp only[Sem.run] at h
  split at h
  ·exact ih _ h
  ·exact Nat.le_trans (Nat.le_succ _) (ih _ (w:={ w with drawn:=w.drawn+1 }) h)
 | sys c k ih=>intro w w' x h; simp only[Sem.run] at h; exact Nat.le_trans (zw5 c w) (ih _ h)
 | program k ih=>intro w w' x h; simp only[Sem.run] at h; exact ih _ h
 | mark m k ih=>intro w w' x h; simp only[Sem.run] at h; exact ih h
 | halt m=>intro w w' x h; simp[Sem.run] at h
end Go.AM
