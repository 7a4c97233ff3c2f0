/- How the abstract machine's data lie in the model's memory: representation, ownership, stability. No condition. -/
import Derived.Test.YtdcbankajhnepaaGreatAmDefs
import Derived.Laws.AppendOwn
import Derived.Laws.CopyRow
import Derived.Laws.MakeOwn
import Derived.Laws.Cells
set_option linter.unusedVariables false
set_option linter.unusedSimpArgs false
namespace Go.AM
def AllR {α:Type} (R:α→List Nat→List Value→Prop):List α→List (List Nat)→List (List Value)→Prop
 | [],[],[]=>True
 | x::xs,F::Fs,c::cs=>R x F c∧AllR R xs Fs cs
 | _,_,_=>False
section
variable {α:Type} {R S:α→List Nat→List Value→Prop}
theorem AllR.mono {xs:List α} (h:∀ x F c,x∈xs→R x F c→S x F c):∀ {Fs cs},AllR R xs Fs cs→AllR S xs Fs cs:=by
 induction xs with
 | nil=>intro Fs cs; cases Fs<;>cases cs<;>simp[AllR]
 | cons x xs ih=>
  intro Fs cs
  cases Fs<;>cases cs<;>simp only[AllR,imp_self]
  exact fun hh=>⟨h _ _ _ (by simp) hh.1,ih (fun y F c hy=>h y F c (by simp[hy])) hh.2⟩
theorem AllR.len {xs:List α} {Fs cs} (h:AllR R xs Fs cs):Fs.length=xs.length∧cs.length=xs.length:=by
 induction xs generalizing Fs cs with
 | nil=>cases Fs<;>cases cs<;>simp_all[AllR]
 | cons x xs ih=>
  cases Fs<;>cases cs<;>simp only[AllR] at h
  have:=ih h.2
  simp[this]
theorem AllR.get {xs:List α} {Fs cs} (h:AllR R xs Fs cs) {i:Nat} {x:α} (hx:xs[i]? = some x):∃ F c,Fs[i]? = some F∧cs[i]? = some c∧R x F c:=by
 induction xs generalizing Fs cs i with
 | nil=>simp at hx
 | cons y xs ih=>
  cases Fs<;>cases cs<;>simp only[AllR] at h
  cases i with
  | zero=>simp at hx; subst hx; exact⟨_,_,rfl,rfl,h.1⟩
  | succ i=>simpa using ih h.2 (by simpa using hx)
theorem AllR.app {xs ys:List α} {Fs cs Gs ds} (h:AllR R xs Fs cs) (k:AllR R ys Gs ds):AllR R (xs++ys) (Fs++Gs) (cs++ds):=by
 induction xs generalizing Fs cs with
 | nil=>cases Fs<;>cases cs<;>simp_all[AllR]
 | cons x xs ih=>
  cases Fs<;>cases cs<;>simp only[AllR] at h
  exact⟨h.1,ih h.2⟩
theorem AllR.set {xs:List α} {Fs cs} (h:AllR R xs Fs cs) {i:Nat} {x:α} {F c} (hR:R x F c):AllR R (xs.set i x) (Fs.set i F) (cs.set i c):=by
 induction xs generalizing Fs cs i with
 | nil=>cases Fs<;>cases cs<;>simp_all[AllR]
 | cons y xs ih=>
  cases Fs<;>cases cs<;>simp only[AllR] at h
  cases i with
  | zero=>exact⟨hR,h.2⟩
  | succ i=>exact⟨h.1,ih h.2⟩
theorem AllR.rep {n:Nat} {x:α} {F c} (h:R x F c):AllR R (List.replicate n x) (List.replicate n F) (List.replicate n c):=by
 induction n with
 | zero=>simp[AllR]
 | succ n ih=>exact⟨h,ih⟩
theorem AllR.size {xs:List α} {Fs cs} {n:Nat} (hn:∀ x F c,R x F c→c.length=n) (h:AllR R xs Fs cs):∀ c∈cs,c.length=n:=by
 induction xs generalizing Fs cs with
 | nil=>cases Fs<;>cases cs<;>simp_all[AllR]
 | cons x xs ih=>
  cases Fs<;>cases cs<;>simp only[AllR] at h
  intro c hc
  rcases List.mem_cons.1 hc with rfl | hc
  ·exact hn _ _ _ h.1
  ·exact ih h.2 c hc
theorem AllR.mem {xs:List α} {Fs cs} (h:AllR R xs Fs cs) {c} (hc:c∈cs):∃ x F,R x F c:=by
 induction xs generalizing Fs cs with
 | nil=>cases Fs<;>cases cs<;>simp_all[AllR]
 | cons x xs ih=>
  cases Fs<;>cases cs<;>simp only[AllR] at h
  rcases List.mem_cons.1 hc with rfl | hc
  ·exact⟨_,_,h.1⟩
  ·exact ih h.2 hc
theorem AllR.memF {xs:List α} {Fs cs} (h:AllR R xs Fs cs) {F} (hF:F∈Fs):∃ x c,R x F c:=by
 induction xs generalizing Fs cs with
 | nil=>cases Fs<;>cases cs<;>simp_all[AllR]
 | cons x xs ih=>
  cases Fs<;>cases cs<;>simp only[AllR] at h
  rcases List.mem_cons.1 hF with rfl | hF
  ·exact⟨_,_,h.1⟩
  ·exact ih h.2 hF
theorem AllR.nofoot {xs:List α} {Fs cs} (hn:∀ x F c,R x F c→F=[]) (h:AllR R xs Fs cs):Fs.flatten=[]:=by
 induction xs generalizing Fs cs with
 | nil=>cases Fs<;>cases cs<;>simp_all[AllR]
 | cons x xs ih=>
  cases Fs<;>cases cs<;>simp only[AllR] at h
  simp[hn _ _ _ h.1,ih h.2]
end
theorem z4f {β:Type} {n:Nat}:∀ {cs:List (List β)},(∀ c∈cs,c.length=n)→∀ {i j:Nat} {c:List β},cs[i]? = some c→j<n→cs.flatten[i*n+j]? = c[j]?
 | [],_,i,j,c,h,_=>by simp at h
 | d::cs,hn,0,j,c,h,hj=>by
  have hd:=hn d (by simp)
  simp at h; subst h
  simp only[List.flatten_cons,Nat.zero_mul,Nat.zero_add]
  rw[List.getElem?_append_left (by omega)]
 | d::cs,hn,i+1,j,c,h,hj=>by
  have hd:=hn d (by simp)
  simp only[List.flatten_cons]
  rw[List.getElem?_append_right (by rw[hd,Nat.add_mul]; omega),hd,show (i+1)*n+j - n=i*n+j by rw[Nat.add_mul]; omega]
  exact z4f (fun c hc=>hn c (by simp[hc])) (by simpa using h) hj
theorem z2j {β:Type} {n:Nat}:∀ {cs:List (List β)},(∀ c∈cs,c.length=n)→cs.flatten.length=cs.length*n
 | [],_=>by simp
 | d::cs,hn=>by
  have:=z2j (cs:=cs) (fun c hc=>hn c (by simp[hc]))
  simp only[List.flatten_cons,List.length_append,List.length_cons,this,hn d (by simp),Nat.add_mul]
  omega
theorem zlz {β:Type} {n:Nat}:∀ {cs:List (List β)},(∀ c∈cs,c.length=n)→∀ {i:Nat} {d:List β},d.length=n→i<cs.length→(cs.set i d).flatten=cs.flatten.take (i*n)++d++cs.flatten.drop (i*n+n)
 | [],_,i,d,_,h=>by simp at h
 | c::cs,hn,0,d,hd,_=>by
  have hc:=hn c (by simp)
  simp[←hc]
 | c::cs,hn,i+1,d,hd,h=>by
  have hc:=hn c (by simp)
  have ih:=zlz (cs:=cs) (fun c hc=>hn c (by simp[hc])) (i:=i) hd (by simpa using h)
  simp only[List.set_cons_succ,List.flatten_cons,ih]
  rw[show (i+1)*n+n=c.length+(i*n+n) by rw[Nat.add_mul,hc]; omega,show (i+1)*n=c.length+i*n by rw[Nat.add_mul,hc]; omega,List.take_length_add_append,List.drop_length_add_append]
  simp[List.append_assoc]
def Rep:(t:Ty)→World→t.den→List Value→Prop
 | .int k,_,x,cs=>cs=[.int k x]
 | .bool,_,x,cs=>cs=[.bool x]
 | .str,_,x,cs=>cs=[.string x]
 | .slice _ t,w,xs,cs=>∃ A c,cs=[.slice A (List.length xs) c]∧List.length xs≤c∧(xs=[]∨∃ b o,A=some ⟨b,o,none⟩∧∀ (i:Nat) (x:t.den),xs[i]? = some x→∃ es,Rep t w x es∧∀ j u,es[j]? = some u→w.cell? ⟨b,o+i*t.size+j,none⟩=some u)
 | .pair a b,w,x,cs=>∃ c1 c2,cs=c1++c2∧Rep a w x.1 c1∧Rep b w x.2 c2
 | .unit,_,_,cs=>cs=[]
def OwnR (w:World) (e size:Nat) (v:Value) (n:Nat) (xs:List Value):Prop:=
 xs.length=n*size ∧
 ((v=.slice none 0 0∧n=0) ∨
  ∃ g o cap cur,v=.slice (some ⟨g,o,none⟩) n cap∧w.heap[g]? = some (.cells cur e (0,0))∧n≤cap∧cap≤maxLen∧o+cap*size≤cur.size∧(cur.toList.drop o).take (n*size)=xs)
theorem OwnR.nil (w:World) (e size:Nat):OwnR w e size (.slice none 0 0) 0 []:=⟨by simp,.inl ⟨rfl,rfl⟩⟩
theorem OwnR.of {w:World} {b e size:Nat} {v:Value} {n:Nat} {xs:List Value} (h:w.ownsRow b e size v n xs):OwnR w e size v n xs:=by
 refine⟨h.1,?_⟩
 rcases h.2 with h | ⟨g,cap,cur,rfl,_,hg,hc,hm,hcs,ht⟩
 ·exact .inl h
 ·exact .inr ⟨g,0,cap,cur,rfl,hg,hc,hm,by omega,by simpa using ht⟩
theorem OwnR.at {w:World} {e size:Nat} {g o m c:Nat} {n:Nat} {xs:List Value} (h:OwnR w e size (.slice (some ⟨g,o,none⟩) m c) n xs):
  ∃ cur,w.heap[g]? = some (.cells cur e (0,0))∧m=n∧n≤c∧c≤maxLen∧o+c*size≤cur.size∧(cur.toList.drop o).take (n*size)=xs:=by
 rcases h.2 with ⟨h,_⟩ | ⟨g',o',cap,cur,hv,hg,hc,hm,hcs,ht⟩
 ·cases h
 ·cases hv
  exact⟨cur,hg,rfl,hc,hm,hcs,ht⟩
theorem OwnR.cells {w:World} {e size:Nat} {g o m c:Nat} {n:Nat} {xs:List Value} (h:OwnR w e size (.slice (some ⟨g,o,none⟩) m c) n xs):∀ j u,xs[j]? = some u→w.cell? ⟨g,o+j,none⟩=some u:=by
 intro j u hu
 obtain⟨cur,hg,_,_,_,_,ht⟩:=h.at
 rw[cell_of_row w g (o+j) cur e (0,0) hg]
 rw[←ht,List.getElem?_take] at hu
 split at hu
 ·rw[List.getElem?_drop] at hu
  simpa using hu
 ·cases hu
def RowR {α:Type} (R:α→List Nat→List Value→Prop) (w:World) (e size:Nat) (v:Value) (F:List Nat) (xs:List α):Prop:=
 ∃ Fs ess,AllR R xs Fs ess∧F=v.ownBlock.toList++Fs.flatten∧OwnR w e size v xs.length ess.flatten
def Deep:(t:Ty)→World→t.den→List Nat→List Value→Prop
 | .int k,_,x,F,cs=>F=[]∧cs=[.int k x]
 | .bool,_,x,F,cs=>F=[]∧cs=[.bool x]
 | .str,_,x,F,cs=>F=[]∧cs=[.string x]
 | .slice e t,w,xs,F,cs=>∃ v,cs=[v]∧RowR (Deep t w) w e t.size v F xs
 | .pair a b,w,x,F,cs=>∃ F1 F2 c1 c2,F=F1++F2∧cs=c1++c2∧Deep a w x.1 F1 c1∧Deep b w x.2 F2 c2
 | .unit,_,_,F,cs=>F=[]∧cs=[]
theorem Rep.len:∀ (t:Ty) {w:World} {x:t.den} {cs},Rep t w x cs→cs.length=t.size
 | .int _,_,_,_,h=>by simp only[Rep] at h; simp[h,Ty.size]
 | .bool,_,_,_,h=>by simp only[Rep] at h; simp[h,Ty.size]
 | .str,_,_,_,h=>by simp only[Rep] at h; simp[h,Ty.size]
 | .slice _ _,_,_,_,h=>by obtain⟨A,c,rfl,_⟩:=h; simp[Ty.size]
 | .pair a b,_,_,_,h=>by obtain⟨c1,c2,rfl,h1,h2⟩:=h; simp[Ty.size,Rep.len a h1,Rep.len b h2]
 | .unit,_,_,_,h=>by simp only[Rep] at h; simp[h,Ty.size]
theorem Rep.one:∀ (t:Ty) {w:World} {x:t.den} {cs},Rep t w x cs→∀ u∈cs,u.oneCell'=true
 | .int _,_,_,_,h=>by simp only[Rep] at h; simp[h,Value.oneCell']
 | .bool,_,_,_,h=>by simp only[Rep] at h; simp[h,Value.oneCell']
 | .str,_,_,_,h=>by simp only[Rep] at h; simp[h,Value.oneCell']
 | .slice _ _,_,_,_,h=>by obtain⟨A,c,rfl,_⟩:=h; simp[Value.oneCell']
 | .pair a b,_,_,_,h=>by
  obtain⟨c1,c2,rfl,h1,h2⟩:=h
  intro u hu
  rcases List.mem_append.1 hu with hu | hu
  ·exact Rep.one a h1 u hu
  ·exact Rep.one b h2 u hu
 | .unit,_,_,_,h=>by simp only[Rep] at h; simp[h]
theorem Deep.len:∀ (t:Ty) {w:World} {x:t.den} {F cs},Deep t w x F cs→cs.length=t.size
 | .int _,_,_,_,_,h=>by simp only[Deep] at h; simp[h,Ty.size]
 | .bool,_,_,_,_,h=>by simp only[Deep] at h; simp[h,Ty.size]
 | .str,_,_,_,_,h=>by simp only[Deep] at h; simp[h,Ty.size]
 | .slice _ _,_,_,_,_,h=>by obtain⟨v,rfl,_⟩:=h; simp[Ty.size]
 | .pair a b,_,_,_,_,h=>by obtain⟨F1,F2,c1,c2,rfl,rfl,h1,h2⟩:=h; simp[Ty.size,Deep.len a h1,Deep.len b h2]
 | .unit,_,_,_,_,h=>by simp only[Deep] at h; simp[h,Ty.size]
theorem z0u {w:World} {e size:Nat} {v:Value} {n:Nat} {xs:List Value} (h:OwnR w e size v n xs):∃ A c,v=.slice A n c∧n≤c:=by
 rcases h.2 with ⟨rfl,rfl⟩ | ⟨g,o,cap,cur,rfl,_,hc,_⟩
 ·exact⟨_,_,rfl,Nat.le_refl _⟩
 ·exact⟨_,_,rfl,hc⟩
theorem Deep.one:∀ (t:Ty) {w:World} {x:t.den} {F cs},Deep t w x F cs→∀ u∈cs,u.oneCell'=true
 | .int _,_,_,_,_,h=>by simp only[Deep] at h; simp[h,Value.oneCell']
 | .bool,_,_,_,_,h=>by simp only[Deep] at h; simp[h,Value.oneCell']
 | .str,_,_,_,_,h=>by simp only[Deep] at h; simp[h,Value.oneCell']
 | .slice _ _,_,_,_,_,h=>by
  obtain⟨v,rfl,Fs,ess,_,_,ho⟩:=h
  obtain⟨A,c,rfl,_⟩:=z0u ho
  simp[Value.oneCell']
 | .pair a b,_,_,_,_,h=>by
  obtain⟨F1,F2,c1,c2,rfl,rfl,h1,h2⟩:=h
  intro u hu
  rcases List.mem_append.1 hu with hu | hu
  ·exact Deep.one a h1 u hu
  ·exact Deep.one b h2 u hu
 | .unit,_,_,_,_,h=>by simp only[Deep] at h; simp[h]
theorem RowR.cells {α:Type} {R:α→List Nat→List Value→Prop} {w:World} {e size:Nat} {v:Value} {F:List Nat} {xs:List α}
  (hn:∀ x F c,R x F c→c.length=size) (h:RowR R w e size v F xs) {i:Nat} {x:α} (hx:xs[i]? = some x):
  ∃ g o n c,v=.slice (some ⟨g,o,none⟩) n c∧∃ G es,R x G es∧(∀ b∈G,b∈F)∧∀ j u,es[j]? = some u→w.cell? ⟨g,o+i*size+j,none⟩=some u:=by
 obtain⟨Fs,ess,ha,rfl,ho⟩:=h
 obtain⟨G,es,hG,hes,hR⟩:=ha.get hx
 have hpos:xs.length≠0:=by have:=(List.getElem?_eq_some_iff.1 hx).1; omega
 have hsz:=ha.size hn
 obtain⟨hl,ho'⟩:=ho
 rcases ho' with ⟨_,h0⟩ | ⟨g,o,cap,cur,rfl,hg,hc,hm,hcs,ht⟩
 ·exact absurd h0 hpos
 ·refine⟨g,o,_,_,rfl,G,es,hR,fun b hb=>?_,fun j u hu=>?_⟩
  ·refine List.mem_append.2 (.inr (List.mem_flatten.2 ⟨G,List.mem_of_getElem? hG,hb⟩))
  ·have hj:j<size:=by
    have:=(List.getElem?_eq_some_iff.1 hu).1
    rw[hn _ _ _ hR] at this
    exact this
   have h1:=z4f hsz hes hj
   rw[hu] at h1
   have hc2:=OwnR.cells (w:=w) (e:=e) (size:=size) (n:=xs.length) (xs:=ess.flatten) ⟨hl,.inr ⟨g,o,cap,cur,rfl,hg,hc,hm,hcs,ht⟩⟩ _ _ h1
   rwa [←Nat.add_assoc] at hc2
theorem Deep.rep:∀ (t:Ty) {w:World} {x:t.den} {F cs},Deep t w x F cs→Rep t w x cs
 | .int _,_,_,_,_,h=>by simp only[Deep] at h; exact h.2
 | .bool,_,_,_,_,h=>by simp only[Deep] at h; exact h.2
 | .str,_,_,_,_,h=>by simp only[Deep] at h; exact h.2
 | .slice e t,w,xs,F,cs,h=>by
  obtain⟨v,rfl,hr⟩:=h
  obtain⟨A,c,hv,hc⟩:=z0u hr.choose_spec.choose_spec.2.2
  refine⟨A,c,by rw[hv],hc,?_⟩
  by_cases hx:xs=[]
  ·exact .inl hx
  ·right
   have h0:0<List.length xs:=List.length_pos_iff.2 hx
   obtain⟨g,o,n,c',hv',_⟩:=hr.cells (fun x F c hR=>Deep.len t hR) (i:=0) (x:=xs[0]) (by simp[List.getElem?_eq_getElem h0])
   rw[hv] at hv'
   simp only[Value.slice.injEq] at hv'
   refine⟨g,o,hv'.1,fun i x hx=>?_⟩
   obtain⟨g2,o2,n2,c2,hv2,G,es,hR,_,hcell⟩:=hr.cells (fun x F c hR=>Deep.len t hR) hx
   rw[hv] at hv2
   simp only[Value.slice.injEq] at hv2
   have hg:g=g2∧o=o2:=by
    have:=hv'.1.symm.trans hv2.1
    simpa using this
   obtain⟨rfl,rfl⟩:=hg
   exact⟨es,Deep.rep t hR,fun j u hu=>hcell j u hu⟩
 | .pair a b,_,_,_,_,h=>by
  obtain⟨F1,F2,c1,c2,rfl,rfl,h1,h2⟩:=h
  exact⟨c1,c2,rfl,Deep.rep a h1,Deep.rep b h2⟩
 | .unit,_,_,_,_,h=>by simp only[Deep] at h; exact h.2
theorem zd0 {w w':World} {e size:Nat} {v:Value} {n:Nat} {xs:List Value} (h:OwnR w e size v n xs)
  (hb:∀ b,v.ownBlock=some b→w'.heap[b]? = w.heap[b]?):OwnR w' e size v n xs:=by
 refine⟨h.1,?_⟩
 rcases h.2 with h | ⟨g,o,cap,cur,rfl,hg,rest⟩
 ·exact .inl h
 ·exact .inr ⟨g,o,cap,cur,rfl,by rw[hb g rfl]; exact hg,rest⟩
theorem RowR.congr {α:Type} {R S:α→List Nat→List Value→Prop} {w w':World} {e size:Nat} {v:Value} {F:List Nat} {xs:List α}
  (h:RowR R w e size v F xs) (hF:∀ b∈F,w'.heap[b]? = w.heap[b]?) (hRS:∀ x G c,(∀ b∈G,b∈F)→R x G c→S x G c):RowR S w' e size v F xs:=by
 obtain⟨Fs,ess,ha,rfl,ho⟩:=h
 refine⟨Fs,ess,?_,rfl,zd0 ho fun b hb=>hF b (by simp[hb])⟩
 have:∀ (ys:List α) Gs ds,(∀ G∈Gs,G∈Fs)→AllR R ys Gs ds→AllR S ys Gs ds:=by
  intro ys
  induction ys with
  | nil=>intro Gs ds _ h; cases Gs<;>cases ds<;>simp_all[AllR]
  | cons y ys ih=>
   intro Gs ds hG h
   cases Gs<;>cases ds<;>simp only[AllR] at h ⊢
   refine⟨hRS _ _ _ (fun b hb=>?_) h.1,ih _ _ (fun G hG'=>hG G (by simp[hG'])) h.2⟩
   exact List.mem_append.2 (.inr (List.mem_flatten.2 ⟨_,hG _ (by simp),hb⟩))
 exact this xs Fs ess (fun _ h=>h) ha
theorem Deep.congr:∀ (t:Ty) {w w':World} {x:t.den} {F cs},Deep t w x F cs→(∀ b∈F,w'.heap[b]? = w.heap[b]?)→Deep t w' x F cs
 | .int _,_,_,_,_,_,h,_=>h
 | .bool,_,_,_,_,_,h,_=>h
 | .str,_,_,_,_,_,h,_=>h
 | .slice e t,w,w',xs,F,cs,h,hF=>by
  obtain⟨v,rfl,hr⟩:=h
  exact⟨v,rfl,hr.congr hF fun x G c hG hR=>Deep.congr t hR fun b hb=>hF b (hG b hb)⟩
 | .pair a b,_,_,_,_,_,h,hF=>by
  obtain⟨F1,F2,c1,c2,rfl,rfl,h1,h2⟩:=h
  exact⟨F1,F2,c1,c2,rfl,rfl,Deep.congr a h1 fun b hb=>hF b (by simp[hb]),Deep.congr b h2 fun b hb=>hF b (by simp[hb])⟩
 | .unit,_,_,_,_,_,h,_=>h
theorem zie {w:World} {e size:Nat} {v:Value} {n:Nat} {xs:List Value} (h:OwnR w e size v n xs) {b:Nat} (hb:v.ownBlock=some b):b<w.heap.size:=by
 rcases h.2 with ⟨rfl,_⟩ | ⟨g,o,cap,cur,rfl,hg,_⟩
 ·simp[Value.ownBlock] at hb
 ·simp[Value.ownBlock] at hb
  subst hb
  exact (Array.getElem?_eq_some_iff.1 hg).1
theorem RowR.lt {α:Type} {R:α→List Nat→List Value→Prop} {w:World} {e size:Nat} {v:Value} {F:List Nat} {xs:List α}
  (h:RowR R w e size v F xs) (hR:∀ x G c,R x G c→∀ b∈G,b<w.heap.size):∀ b∈F,b<w.heap.size:=by
 obtain⟨Fs,ess,ha,rfl,ho⟩:=h
 intro b hb
 rcases List.mem_append.1 hb with hb | hb
 ·exact zie ho (by simpa using hb)
 ·obtain⟨G,hG,hb⟩:=List.mem_flatten.1 hb
  obtain⟨x,c,hx⟩:=ha.memF hG
  exact hR _ _ _ hx b hb
theorem Deep.lt:∀ (t:Ty) {w:World} {x:t.den} {F cs},Deep t w x F cs→∀ b∈F,b<w.heap.size
 | .int _,_,_,_,_,h=>by simp only[Deep] at h; simp[h]
 | .bool,_,_,_,_,h=>by simp only[Deep] at h; simp[h]
 | .str,_,_,_,_,h=>by simp only[Deep] at h; simp[h]
 | .slice e t,w,xs,F,cs,h=>by
  obtain⟨v,rfl,hr⟩:=h
  exact hr.lt fun x G c hR=>Deep.lt t hR
 | .pair a b,_,_,_,_,h=>by
  obtain⟨F1,F2,c1,c2,rfl,rfl,h1,h2⟩:=h
  intro b hb
  rcases List.mem_append.1 hb with hb | hb
  ·exact Deep.lt a h1 b hb
  ·exact Deep.lt _ h2 b hb
 | .unit,_,_,_,_,h=>by simp only[Deep] at h; simp[h]
theorem Deep.flat:∀ (t:Ty),t.flat=true→∀ {w:World} {x:t.den} {cs},Rep t w x cs→∀ w',Deep t w' x [] cs
 | .int _,_,_,_,_,h,_=>⟨rfl,h⟩
 | .bool,_,_,_,_,h,_=>⟨rfl,h⟩
 | .str,_,_,_,_,h,_=>⟨rfl,h⟩
 | .slice _ _,hf,_,_,_,_,_=>by simp[Ty.flat] at hf
 | .pair a b,hf,_,_,_,h,w'=>by
  obtain⟨c1,c2,rfl,h1,h2⟩:=h
  simp only[Ty.flat,Bool.and_eq_true] at hf
  exact⟨[],[],c1,c2,rfl,rfl,Deep.flat a hf.1 h1 w',Deep.flat b hf.2 h2 w'⟩
 | .unit,_,_,_,_,h,_=>⟨rfl,h⟩
theorem Deep.nofoot:∀ (t:Ty),t.flat=true→∀ {w:World} {x:t.den} {F cs},Deep t w x F cs→F=[]
 | .int _,_,_,_,_,_,h=>h.1
 | .bool,_,_,_,_,_,h=>h.1
 | .str,_,_,_,_,_,h=>h.1
 | .slice _ _,hf,_,_,_,_,_=>by simp[Ty.flat] at hf
 | .pair a b,hf,_,_,_,_,h=>by
  obtain⟨F1,F2,c1,c2,rfl,rfl,h1,h2⟩:=h
  simp only[Ty.flat,Bool.and_eq_true] at hf
  simp[Deep.nofoot a hf.1 h1,Deep.nofoot b hf.2 h2]
 | .unit,_,_,_,_,_,h=>h.1
def ImmS (t:Ty) (x:t.den) (cs:List Value) (w:World) (U:Nat→Prop):Prop:=
 ∀ W':World,(∀ b,b<w.heap.size→¬U b→W'.heap[b]? = w.heap[b]?)→Rep t W' x cs
theorem ImmS.rep {t:Ty} {x:t.den} {cs w U} (h:ImmS t x cs w U):Rep t w x cs:=h w fun _ _ _=>rfl
theorem ImmS.sub {t:Ty} {x:t.den} {cs w} {U V:Nat→Prop} (h:ImmS t x cs w U) (hUV:∀ b,b<w.heap.size→V b→U b):ImmS t x cs w V:=
 fun W' hW=>h W' fun b hb hu=>hW b hb fun hv=>hu (hUV b hb hv)
theorem ImmS.next {t:Ty} {x:t.den} {cs w w'} {U V:Nat→Prop} (h:ImmS t x cs w U) (hs:w.heap.size≤w'.heap.size)
  (hw:∀ b,b<w.heap.size→¬U b→w'.heap[b]? = w.heap[b]?) (hUV:∀ b,b<w.heap.size→V b→U b):ImmS t x cs w' V:=
 fun W' hW=>h W' fun b hb hu=>(hW b (by omega) fun hv=>hu (hUV b hb hv)).trans (hw b hb hu)
theorem ImmS.ofDeep {t:Ty} {x:t.den} {F cs w} {U:Nat→Prop} (h:Deep t w x F cs) (hF:∀ b∈F,¬U b):ImmS t x cs w U:=
 fun W' hW=>Deep.rep t (Deep.congr t h fun b hb=>hW b (Deep.lt t h b hb) (hF b hb))
theorem ImmS.flat {t:Ty} (hf:t.flat=true) {x:t.den} {cs w} (h:Rep t w x cs) (U:Nat→Prop):ImmS t x cs w U:=
 fun W' _=>Deep.rep t (Deep.flat t hf h W')
theorem ImmS.pair {a b:Ty} {x:a.den×b.den} {cs w U} (h:ImmS (.pair a b) x cs w U):∃ c1 c2,cs=c1++c2∧ImmS a x.1 c1 w U∧ImmS b x.2 c2 w U:=by
 obtain⟨c1,c2,rfl,h1,h2⟩:=h.rep
 refine⟨c1,c2,rfl,fun W' hW=>?_,fun W' hW=>?_⟩
 all_goals
  obtain⟨d1,d2,he,k1,k2⟩:=h W' hW
  have:=List.append_inj he (by rw[Rep.len a h1,Rep.len a k1])
  obtain⟨rfl,rfl⟩:=this
  first | exact k1 | exact k2
theorem ImmS.mk {a b:Ty} {x:a.den×b.den} {c1 c2 w U} (h1:ImmS a x.1 c1 w U) (h2:ImmS b x.2 c2 w U):ImmS (.pair a b) x (c1++c2) w U:=
 fun W' hW=>⟨c1,c2,rfl,h1 W' hW,h2 W' hW⟩
theorem ImmS.block {e:TypeId} {t:Ty} {xs:List t.den} {A:Option Addr} {n c:Nat} {w U} (h:ImmS (.slice e t) xs [.slice A n c] w U) (hne:xs≠[]) (hs:0<t.size):
  ∃ b o,A=some ⟨b,o,none⟩∧¬U b∧b<w.heap.size:=by
 obtain⟨A1,c1,he,_,hr⟩:=h.rep
 simp only[List.cons.injEq,Value.slice.injEq,and_true] at he
 obtain⟨rfl,rfl,rfl⟩:=he
 rcases hr with h0 | ⟨b,o,rfl,hel⟩
 ·exact absurd h0 hne
 have h0:0<xs.length:=List.length_pos_iff.2 hne
 obtain⟨es,hes,hcell⟩:=hel 0 xs[0] (by simp[List.getElem?_eq_getElem h0])
 have hl:=Rep.len t hes
 have hlt:=World.block_lt_of_cell? w _ (hcell 0 es[0] (by simp[List.getElem?_eq_getElem (show 0<es.length by omega)]))
 refine⟨b,o,rfl,fun hU=>?_,hlt⟩
 obtain⟨A2,c2,he2,_,hr2⟩:=h { w with heap:=w.heap.setIfInBounds b (.map #[] 0) } fun b' _ hb'=>by
  have:b≠b':=fun e=>hb' (e▸hU)
  simp[Array.getElem?_setIfInBounds,this]
 simp only[List.cons.injEq,Value.slice.injEq,and_true] at he2
 obtain⟨rfl,_,rfl⟩:=he2
 rcases hr2 with h1 | ⟨b2,o2,hb2,hel2⟩
 ·exact absurd h1 hne
 ·simp only[Option.some.injEq,Addr.mk.injEq,and_true] at hb2
  obtain⟨rfl,rfl⟩:=hb2
  obtain⟨es2,hes2,hcell2⟩:=hel2 0 xs[0] (by simp[List.getElem?_eq_getElem h0])
  have hl2:=Rep.len t hes2
  have:=hcell2 0 es2[0] (by simp[List.getElem?_eq_getElem (show 0<es2.length by omega)])
  simp[World.cell?,Array.getElem?_setIfInBounds,hlt] at this
theorem ImmS.elem {e:TypeId} {t:Ty} {xs:List t.den} {cs w U} (h:ImmS (.slice e t) xs cs w U) {i:Nat} {x:t.den} (hx:xs[i]? = some x):
  ∃ b o c,cs=[.slice (some ⟨b,o,none⟩) xs.length c]∧∃ es,ImmS t x es w U∧∀ j u,es[j]? = some u→w.cell? ⟨b,o+i*t.size+j,none⟩=some u:=by
 obtain⟨A,c,rfl,hc,hr⟩:=h.rep
 have hne:xs≠[]:=by intro h0; subst h0; simp at hx
 rcases hr with h0 | ⟨b,o,rfl,hel⟩
 ·exact absurd h0 hne
 ·obtain⟨es,hes,hcell⟩:=hel i x hx
  refine⟨b,o,c,rfl,es,fun W' hW=>?_,hcell⟩
  obtain⟨A',c',he,_,hr'⟩:=h W' hW
  rcases hr' with h0 | ⟨b',o',hA,hel'⟩
  ·exact absurd h0 hne
  ·simp at he
   obtain⟨rfl,_,rfl⟩:=he
   simp at hA
   obtain⟨rfl,rfl⟩:=hA
   obtain⟨es',hes',hcell'⟩:=hel' i x hx
   have:es'=es:=by
    apply List.ext_getElem?
    intro j
    cases hj:es[j]? with
    | some u=>
     have h1:=hcell j u hj
     have hj':=(List.getElem?_eq_some_iff.1 hj).1
     have hlt:j<es'.length:=by rw[Rep.len t hes',←Rep.len t hes]; exact hj'
     have h2:=hcell' j _ (List.getElem?_eq_getElem hlt)
     obtain⟨b2,o2,hb2,hU,hlt2⟩:=h.block hne (by rw[←Rep.len t hes]; omega)
     simp only[Option.some.injEq,Addr.mk.injEq,and_true] at hb2
     obtain⟨rfl,rfl⟩:=hb2
     rw[World.cell?_of_block (w:=w) (hW b hlt2 hU),h1] at h2
     rw[List.getElem?_eq_getElem hlt,h2]
    | none=>
     have:es.length≤j:=by simpa using hj
     rw[List.getElem?_eq_none (by rw[Rep.len t hes',←Rep.len t hes]; exact this)]
   subst this
   exact hes'
end Go.AM
