/- A part of an element, written in place. No condition. -/
import Derived.Test.YtdcbankajhnepaaGreatAmShal
set_option linter.unusedVariables false
set_option linter.unusedSimpArgs false
namespace Go.AM
theorem zik {w:World}:∀ (t:Ty) {x:t.den} {F:List Nat} {cs:List Value} {off:Nat} {s:Ty} {y:s.den},Deep t w x F cs→F.Nodup→z18 t x off=some ⟨s,y⟩→∃ G v,(∀ b∈G,b∈F)∧G.Nodup∧cs[off]? = some v∧Deep s w y G [v] ∧
  ∀ (w':World) (y':s.den) (z:t.den),z2m t x off s y'=some z→(∀ b∈F,b∉G→w'.heap[b]? = w.heap[b]?)→Deep s w' y' G [v]→Deep t w' z F cs
 | .int k,x,F,cs,off,s,y,h,hn,hl=>by
  simp only[z18] at hl
  split at hl
  ·rename_i ho
   simp only[Option.some.injEq,Sigma.mk.injEq] at hl; obtain⟨rfl,e⟩:=hl; obtain rfl:=eq_of_heq e
   obtain⟨rfl,rfl⟩:=h
   simp only[beq_iff_eq] at ho
   subst ho
   refine⟨[],_,by simp,by simp,rfl,⟨rfl,rfl⟩,fun w' y' z hz _ hd=>?_⟩
   simp only[z2m,beq_self_eq_true,if_true,Ty.cast_self'] at hz
   simp only[Option.some.injEq] at hz
   subst hz
   exact hd
  ·cases hl
 | .bool,x,F,cs,off,s,y,h,hn,hl=>by
  simp only[z18] at hl
  split at hl
  ·rename_i ho
   simp only[Option.some.injEq,Sigma.mk.injEq] at hl; obtain⟨rfl,e⟩:=hl; obtain rfl:=eq_of_heq e
   obtain⟨rfl,rfl⟩:=h
   simp only[beq_iff_eq] at ho
   subst ho
   refine⟨[],_,by simp,by simp,rfl,⟨rfl,rfl⟩,fun w' y' z hz _ hd=>?_⟩
   simp only[z2m,beq_self_eq_true,if_true,Ty.cast_self'] at hz
   simp only[Option.some.injEq] at hz
   subst hz
   exact hd
  ·cases hl
 | .str,x,F,cs,off,s,y,h,hn,hl=>by
  simp only[z18] at hl
  split at hl
  ·rename_i ho
   simp only[Option.some.injEq,Sigma.mk.injEq] at hl; obtain⟨rfl,e⟩:=hl; obtain rfl:=eq_of_heq e
   obtain⟨rfl,rfl⟩:=h
   simp only[beq_iff_eq] at ho
   subst ho
   refine⟨[],_,by simp,by simp,rfl,⟨rfl,rfl⟩,fun w' y' z hz _ hd=>?_⟩
   simp only[z2m,beq_self_eq_true,if_true,Ty.cast_self'] at hz
   simp only[Option.some.injEq] at hz
   subst hz
   exact hd
  ·cases hl
 | .slice e t,x,F,cs,off,s,y,h,hn,hl=>by
  simp only[z18] at hl
  split at hl
  ·rename_i ho
   simp only[Option.some.injEq,Sigma.mk.injEq] at hl; obtain⟨rfl,e⟩:=hl; obtain rfl:=eq_of_heq e
   simp only[beq_iff_eq] at ho
   subst ho
   have h':=h
   obtain⟨v,rfl,hr⟩:=h
   refine⟨F,v,fun _ h=>h,hn,rfl,h',fun w' y' z hz _ hd=>?_⟩
   simp only[z2m,beq_self_eq_true,if_true,Ty.cast_self'] at hz
   simp only[Option.some.injEq] at hz
   subst hz
   exact hd
  ·cases hl
 | .pair a b,x,F,cs,off,s,y,h,hn,hl=>by
  obtain⟨F1,F2,c1,c2,rfl,rfl,h1,h2⟩:=h
  have hlen:=Deep.len a h1
  obtain⟨n1,n2,n3⟩:=List.nodup_append.1 hn
  simp only[z18] at hl
  split at hl
  ·rename_i hoff
   obtain⟨G,v,hG,hGn,hv,hd,hput⟩:=zik a h1 n1 hl
   refine⟨G,v,fun b hb=>by simp[hG b hb],hGn,by rw[List.getElem?_append_left (by omega)]; exact hv,hd,fun w' y' z hz hsame hd'=>?_⟩
   simp only[z2m,if_pos hoff] at hz
   split at hz
   ·rename_i q hq
    simp only[Option.some.injEq] at hz
    subst hz
    exact⟨F1,F2,c1,c2,rfl,rfl,hput w' y' q hq (fun b hb hg=>hsame b (by simp[hb]) hg) hd',Deep.congr b h2 fun b hb=>hsame b (by simp[hb]) fun hg=>n3 b (hG b hg) b hb rfl⟩
   ·cases hz
  ·rename_i hoff
   obtain⟨G,v,hG,hGn,hv,hd,hput⟩:=zik b h2 n2 hl
   refine⟨G,v,fun b hb=>by simp[hG b hb],hGn,by rw[List.getElem?_append_right (by omega),hlen]; exact hv,hd,fun w' y' z hz hsame hd'=>?_⟩
   simp only[z2m,if_neg hoff] at hz
   split at hz
   ·rename_i q hq
    simp only[Option.some.injEq] at hz
    subst hz
    exact⟨F1,F2,c1,c2,rfl,rfl,Deep.congr a h1 fun b hb=>hsame b (by simp[hb]) fun hg=>n3 b hb b (hG b hg) rfl,hput w' y' q hq (fun b hb hg=>hsame b (by simp[hb]) hg) hd'⟩
   ·cases hz
 | .unit,x,F,cs,off,s,y,h,hn,hl=>by simp[z18] at hl
where
 Ty.cast_self' {t:Ty} {x:t.den}:Ty.cast t t x=some x:=by simp[Ty.cast]
theorem AllR.mk {α:Type} {R:α→List Nat→List Value→Prop}:∀ {xs:List α} {Fs:List (List Nat)} {cs:List (List Value)},Fs.length=xs.length→cs.length=xs.length→(∀ (i:Nat) x F c,xs[i]? = some x→Fs[i]? = some F→cs[i]? = some c→R x F c)→AllR R xs Fs cs
 | [],[],[],_,_,_=>trivial
 | [],_::_,_,h,_,_=>by simp at h
 | [],[],_::_,_,h,_=>by simp at h
 | _::_,[],_,h,_,_=>by simp at h
 | _::_,_::_,[],_,h,_=>by simp at h
 | x::xs,F::Fs,c::cs,h1,h2,h=>⟨h 0 x F c rfl rfl rfl,AllR.mk (by simpa using h1) (by simpa using h2) fun i y G d hy hG hd=>h (i+1) y G d (by simpa using hy) (by simpa using hG) (by simpa using hd)⟩
theorem zs3 {w:World} {e:TypeId} {t:Ty} {hd:Value} {F:List Nat} {xs:List t.den} (h:RowR (Deep t w) w e t.size hd F xs) (hn:F.Nodup) {i:Nat} {x:t.den} (hi:xs[i]? = some x) {off:Nat} {s:Ty} {y:s.den} (hl:z18 t x off=some ⟨s,y⟩):
  ∃ G v g og n c,hd=.slice (some ⟨g,og,none⟩) n c∧w.cell? ⟨g,og+i*t.size+off,none⟩=some v∧(∀ b∈G,b∈F)∧G.Nodup∧Deep s w y G [v] ∧
   ∀ (w':World) (y':s.den) (z:t.den),z2m t x off s y'=some z→(∀ b∈F,b∉G→w'.heap[b]? = w.heap[b]?)→Deep s w' y' G [v]→RowR (Deep t w') w' e t.size hd F (xs.set i z):=by
 have hcells:=h.cells (fun x F c hR=>Deep.len t hR) hi
 obtain⟨Fs,ess,ha,rfl,ho⟩:=h
 obtain⟨n1,n2,n3⟩:=List.nodup_append.1 hn
 obtain⟨Fi,es,hFi,hes,hR⟩:=ha.get hi
 have hFin:Fi.Nodup:=by
  have:∀ (Ls:List (List Nat)),Ls.flatten.Nodup→∀ L∈Ls,L.Nodup:=by
   intro Ls
   induction Ls with
   | nil=>simp
   | cons L Ls ih=>
    intro hn M hM
    rw[List.flatten_cons,List.nodup_append] at hn
    rcases List.mem_cons.1 hM with rfl | hM
    ·exact hn.1
    ·exact ih hn.2.1 M hM
  exact this _ n2 _ (List.mem_of_getElem? hFi)
 obtain⟨G,v,hG,hGn,hv,hdeep,hput⟩:=zik t hR hFin hl
 obtain⟨g,og,n,c,hhd,G',es',hR',hG',hc⟩:=hcells
 have hsub:∀ b∈Fi,b∈Fs.flatten:=fun b hb=>List.mem_flatten.2 ⟨Fi,List.mem_of_getElem? hFi,hb⟩
 have hsz:=ha.size (fun x F c hR=>Deep.len t hR)
 have hlen:=hsz es (List.mem_of_getElem? hes)
 have hofflt:off<t.size:=by have:=(List.getElem?_eq_some_iff.1 hv).1; omega
 have hcell:w.cell? ⟨g,og+i*t.size+off,none⟩=some v:=by
  rw[hhd] at ho
  have h1:=ho.cells (i*t.size+off) v (by rw[z4f hsz hes hofflt]; exact hv)
  rwa [←Nat.add_assoc] at h1
 refine⟨G,v,g,og,n,c,hhd,hcell,fun b hb=>List.mem_append.2 (.inr (hsub b (hG b hb))),hGn,hdeep,fun w' y' z hz hsame hd'=>?_⟩
 have hgF:g∈hd.ownBlock.toList:=by rw[hhd]; simp[Value.ownBlock]
 have hgG:g∉G:=fun hg=>n3 g hgF g (hsub g (hG g hg)) rfl
 have hapart:∀ (Ls:List (List Nat)),Ls.flatten.Nodup→∀ (i j:Nat) L M,Ls[i]? = some L→Ls[j]? = some M→i≠j→∀ b∈L,b∉M:=by
  intro Ls
  induction Ls with
  | nil=>intro _ i j L M h; simp at h
  | cons K Ls ih=>
   intro hn i j L M hL hM hij b hb hb'
   rw[List.flatten_cons,List.nodup_append] at hn
   cases i with
   | zero=>
    cases j with
    | zero=>exact hij rfl
    | succ j=>
     simp at hL hM; subst hL
     exact hn.2.2 b hb b (List.mem_flatten.2 ⟨M,List.mem_of_getElem? hM,hb'⟩) rfl
   | succ i=>
    cases j with
    | zero=>
     simp at hL hM; subst hM
     exact hn.2.2 b hb' b (List.mem_flatten.2 ⟨L,List.mem_of_getElem? hL,hb⟩) rfl
    | succ j=>exact ih hn.2.1 i j L M (by simpa using hL) (by simpa using hM) (by omega) b hb hb'
 have hlens:=ha.len
 have hown:OwnR w' e t.size hd xs.length ess.flatten:=zd0 ho fun b hb=>hsame b (List.mem_append.2 (.inl (by simp[hb]))) fun hbG=>by
  rw[hhd] at hb
  simp only[Value.ownBlock,Option.some.injEq] at hb
  subst hb
  exact hgG hbG
 refine⟨Fs,ess,AllR.mk (by rw[hlens.1]; simp) (by rw[hlens.2]; simp) fun k x' K d hx' hK hd=>?_,rfl,by rw[List.length_set]; exact hown⟩
 ·by_cases hki:k=i
  ·subst hki
   rw[List.getElem?_set_self (List.getElem?_eq_some_iff.1 hi).1] at hx'
   simp only[Option.some.injEq] at hx'
   rw[hFi] at hK
   rw[hes] at hd
   simp only[Option.some.injEq] at hK hd
   subst hx'; subst hK; subst hd
   exact hput w' y' z hz (fun b hb hg=>hsame b (List.mem_append.2 (.inr (hsub b hb))) hg) hd'
  ·rw[List.getElem?_set_ne (fun e=>hki e.symm)] at hx'
   obtain⟨K',d',hK',hd'',hR2⟩:=ha.get hx'
   rw[hK] at hK'
   rw[hd] at hd''
   simp only[Option.some.injEq] at hK' hd''
   subst hK'; subst hd''
   exact Deep.congr t hR2 fun b hb=>hsame b (List.mem_append.2 (.inr (List.mem_flatten.2 ⟨K,List.mem_of_getElem? hK,hb⟩))) fun hbG=>hapart Fs n2 k i K Fi hK hFi hki b hb (hG b hbG)
theorem zk2 {t:Ty} {x:t.den}:Ty.cast t t x=some x:=by simp[Ty.cast]
theorem zs9 {β:Type} {p:Nat} {us l m:List β} (h:p+us.length≤l.length):z07 p us (l++m)=z07 p us l++m:=by
 unfold z07
 rw[List.take_append_of_le_length (by omega),List.drop_append_of_le_length h]
 simp
theorem zpz {β:Type} {p:Nat} {us l m:List β} (h:l.length≤p):z07 p us (l++m)=l++z07 (p - l.length) us m:=by
 unfold z07
 rw[List.take_append,List.take_of_length_le h,List.drop_append,List.drop_of_length_le (by omega:l.length≤p+us.length)]
 simp only[List.nil_append,List.append_assoc]
 rw[show p+us.length - l.length=p - l.length+us.length by omega]
theorem zil {w:World}:∀ (t:Ty) {x:t.den} {F:List Nat} {cs:List Value} {off:Nat} {s:Ty} {y:s.den},Deep t w x F cs→F.Nodup→z18 t x off=some ⟨s,y⟩→∃ G v,(∀ b∈G,b∈F)∧G.Nodup∧cs[off]? = some v∧Deep s w y G [v] ∧
  ∀ (w':World) (y':s.den) (z:t.den) (v':Value) (G':List Nat),z2m t x off s y'=some z→(∀ b∈F,b∉G→w'.heap[b]? = w.heap[b]?)→Deep s w' y' G' [v']→G'.Nodup→(∀ b∈G',b∈F→b∈G) →
   ∃ F',F'.Nodup∧(∀ b∈F',(b∈F∧b∉G)∨b∈G')∧Deep t w' z F' (z07 off [v'] cs)
 | .int k,x,F,cs,off,s,y,h,hn,hl=>by
  simp only[z18] at hl
  split at hl
  ·rename_i ho
   simp only[Option.some.injEq,Sigma.mk.injEq] at hl; obtain⟨rfl,e⟩:=hl; obtain rfl:=eq_of_heq e
   obtain⟨rfl,rfl⟩:=h
   simp only[beq_iff_eq] at ho
   subst ho
   refine⟨[],_,by simp,by simp,rfl,⟨rfl,rfl⟩,fun w' y' z v' G' hz _ hd hn' hG=>?_⟩
   simp only[z2m,beq_self_eq_true,if_true,zk2] at hz
   simp only[Option.some.injEq] at hz
   subst hz
   exact⟨G',hn',fun b hb=>.inr hb,by simpa[z07] using hd⟩
  ·cases hl
 | .bool,x,F,cs,off,s,y,h,hn,hl=>by
  simp only[z18] at hl
  split at hl
  ·rename_i ho
   simp only[Option.some.injEq,Sigma.mk.injEq] at hl; obtain⟨rfl,e⟩:=hl; obtain rfl:=eq_of_heq e
   obtain⟨rfl,rfl⟩:=h
   simp only[beq_iff_eq] at ho
   subst ho
   refine⟨[],_,by simp,by simp,rfl,⟨rfl,rfl⟩,fun w' y' z v' G' hz _ hd hn' hG=>?_⟩
   simp only[z2m,beq_self_eq_true,if_true,zk2] at hz
   simp only[Option.some.injEq] at hz
   subst hz
   exact⟨G',hn',fun b hb=>.inr hb,by simpa[z07] using hd⟩
  ·cases hl
 | .str,x,F,cs,off,s,y,h,hn,hl=>by
  simp only[z18] at hl
  split at hl
  ·rename_i ho
   simp only[Option.some.injEq,Sigma.mk.injEq] at hl; obtain⟨rfl,e⟩:=hl; obtain rfl:=eq_of_heq e
   obtain⟨rfl,rfl⟩:=h
   simp only[beq_iff_eq] at ho
   subst ho
   refine⟨[],_,by simp,by simp,rfl,⟨rfl,rfl⟩,fun w' y' z v' G' hz _ hd hn' hG=>?_⟩
   simp only[z2m,beq_self_eq_true,if_true,zk2] at hz
   simp only[Option.some.injEq] at hz
   subst hz
   exact⟨G',hn',fun b hb=>.inr hb,by simpa[z07] using hd⟩
  ·cases hl
 | .slice e t,x,F,cs,off,s,y,h,hn,hl=>by
  simp only[z18] at hl
  split at hl
  ·rename_i ho
   simp only[Option.some.injEq,Sigma.mk.injEq] at hl; obtain⟨rfl,e⟩:=hl; obtain rfl:=eq_of_heq e
   simp only[beq_iff_eq] at ho
   subst ho
   have h':=h
   obtain⟨v,rfl,hr⟩:=h
   refine⟨F,v,fun _ h=>h,hn,rfl,h',fun w' y' z v' G' hz _ hd hn' hG=>?_⟩
   simp only[z2m,beq_self_eq_true,if_true,zk2] at hz
   simp only[Option.some.injEq] at hz
   subst hz
   exact⟨G',hn',fun b hb=>.inr hb,by simpa[z07] using hd⟩
  ·cases hl
 | .pair a b,x,F,cs,off,s,y,h,hn,hl=>by
  obtain⟨F1,F2,c1,c2,rfl,rfl,h1,h2⟩:=h
  have hlen:=Deep.len a h1
  obtain⟨n1,n2,n3⟩:=List.nodup_append.1 hn
  simp only[z18] at hl
  split at hl
  ·rename_i hoff
   obtain⟨G,v,hG,hGn,hv,hd,hput⟩:=zil a h1 n1 hl
   refine⟨G,v,fun b hb=>by simp[hG b hb],hGn,by rw[List.getElem?_append_left (by omega)]; exact hv,hd,fun w' y' z v' G' hz hsame hd' hn' hGF=>?_⟩
   simp only[z2m,if_pos hoff] at hz
   split at hz
   ·rename_i q hq
    simp only[Option.some.injEq] at hz
    subst hz
    obtain⟨F',f1,f2,f3⟩:=hput w' y' q v' G' hq (fun b hb hg=>hsame b (by simp[hb]) hg) hd' hn' (fun b hb hF=>hGF b hb (by simp[hF]))
    refine⟨F'++F2,List.nodup_append.2 ⟨f1,n2,fun b hb b' hb' e=>?_⟩,fun b hb=>?_,F',F2,z07 off [v'] c1,c2,rfl,zs9 (by simp; omega),f3,Deep.congr b h2 fun b hb=>hsame b (by simp[hb]) fun hg=>n3 b (hG b hg) b hb rfl⟩
    ·subst e
     rcases f2 b hb with ⟨h3,_⟩ | h3
     ·exact n3 b h3 b hb' rfl
     ·exact n3 b (hG b (hGF b h3 (by simp[hb']))) b hb' rfl
    ·rcases List.mem_append.1 hb with hb | hb
     ·rcases f2 b hb with ⟨h3,h4⟩ | h3
      ·exact .inl ⟨by simp[h3],h4⟩
      ·exact .inr h3
     ·exact .inl ⟨by simp[hb],fun hg=>n3 b (hG b hg) b hb rfl⟩
   ·cases hz
  ·rename_i hoff
   obtain⟨G,v,hG,hGn,hv,hd,hput⟩:=zil b h2 n2 hl
   refine⟨G,v,fun b hb=>by simp[hG b hb],hGn,by rw[List.getElem?_append_right (by omega),hlen]; exact hv,hd,fun w' y' z v' G' hz hsame hd' hn' hGF=>?_⟩
   simp only[z2m,if_neg hoff] at hz
   split at hz
   ·rename_i q hq
    simp only[Option.some.injEq] at hz
    subst hz
    obtain⟨F',f1,f2,f3⟩:=hput w' y' q v' G' hq (fun b hb hg=>hsame b (by simp[hb]) hg) hd' hn' (fun b hb hF=>hGF b hb (by simp[hF]))
    refine⟨F1++F',List.nodup_append.2 ⟨n1,f1,fun b hb b' hb' e=>?_⟩,fun b hb=>?_,F1,F',c1,z07 (off - a.size) [v'] c2,rfl,by rw[zpz (by omega),hlen],Deep.congr a h1 fun b hb=>hsame b (by simp[hb]) fun hg=>n3 b hb b (hG b hg) rfl,f3⟩
    ·subst e
     rcases f2 b hb' with ⟨h3,_⟩ | h3
     ·exact n3 b hb b h3 rfl
     ·exact n3 b hb b (hG b (hGF b h3 (by simp[hb]))) rfl
    ·rcases List.mem_append.1 hb with hb | hb
     ·exact .inl ⟨by simp[hb],fun hg=>n3 b hb b (hG b hg) rfl⟩
     ·rcases f2 b hb with ⟨h3,h4⟩ | h3
      ·exact .inl ⟨by simp[h3],h4⟩
      ·exact .inr h3
   ·cases hz
 | .unit,x,F,cs,off,s,y,h,hn,hl=>by simp[z18] at hl
theorem zs4 {w:World} {e:TypeId} {t:Ty} {hd:Value} {F:List Nat} {xs:List t.den} (h:RowR (Deep t w) w e t.size hd F xs) (hn:F.Nodup) {i:Nat} {x:t.den} (hi:xs[i]? = some x) {off:Nat} {s:Ty} {y:s.den} (hl:z18 t x off=some ⟨s,y⟩):
  ∃ G v g og n c cur,hd=.slice (some ⟨g,og,none⟩) n c∧w.heap[g]? = some (.cells cur e (0,0))∧og+i*t.size+off<cur.size∧w.cell? ⟨g,og+i*t.size+off,none⟩=some v∧(∀ b∈G,b∈F)∧g∈F∧g∉G∧G.Nodup∧Deep s w y G [v] ∧
   ∀ (w':World) (y':s.den) (z:t.den) (v':Value) (G':List Nat),z2m t x off s y'=some z→w'.heap[g]? = some (.cells (z07 (og+i*t.size+off) [v'] cur.toList).toArray e (0,0))→(∀ b∈F,b∉G→b≠g→w'.heap[b]? = w.heap[b]?)→Deep s w' y' G' [v']→G'.Nodup→(∀ b∈G',b∈F→b∈G) →
    ∃ F',F'.Nodup∧(∀ b∈F',(b∈F∧b∉G)∨b∈G')∧RowR (Deep t w') w' e t.size hd F' (xs.set i z):=by
 have hcells:=h.cells (fun x F c hR=>Deep.len t hR) hi
 obtain⟨Fs,ess,ha,rfl,ho⟩:=h
 have hil:=(List.getElem?_eq_some_iff.1 hi).1
 obtain⟨n1,n2,n3⟩:=List.nodup_append.1 hn
 obtain⟨Fi,es,hFi,hes,hR⟩:=ha.get hi
 have hndm:∀ (Ls:List (List Nat)),Ls.flatten.Nodup→∀ L∈Ls,L.Nodup:=by
  intro Ls
  induction Ls with
  | nil=>simp
  | cons L Ls ih=>
   intro hn M hM
   rw[List.flatten_cons,List.nodup_append] at hn
   rcases List.mem_cons.1 hM with rfl | hM
   ·exact hn.1
   ·exact ih hn.2.1 M hM
 have hFin:Fi.Nodup:=hndm _ n2 _ (List.mem_of_getElem? hFi)
 obtain⟨G,v,hG,hGn,hv,hdeep,hput⟩:=zil t hR hFin hl
 obtain⟨g,og,n,c,hhd,G0,es',hR',hG',hc⟩:=hcells
 have hsub:∀ b∈Fi,b∈Fs.flatten:=fun b hb=>List.mem_flatten.2 ⟨Fi,List.mem_of_getElem? hFi,hb⟩
 have hsz:=ha.size (fun x F c hR=>Deep.len t hR)
 have hlen:=hsz es (List.mem_of_getElem? hes)
 have hofflt:off<t.size:=by have:=(List.getElem?_eq_some_iff.1 hv).1; omega
 subst hhd
 obtain⟨cur,hg,hnn,hnc,hcm,hcs,htk⟩:=ho.at
 subst hnn
 have hcell:w.cell? ⟨g,og+i*t.size+off,none⟩=some v:=by
  have h1:=ho.cells (i*t.size+off) v (by rw[z4f hsz hes hofflt]; exact hv)
  rwa [←Nat.add_assoc] at h1
 have hmul:i*t.size+t.size≤xs.length*t.size:=by have:=Nat.mul_le_mul_right t.size hil; rw[Nat.succ_mul] at this; exact this
 have hmul2:xs.length*t.size≤c*t.size:=Nat.mul_le_mul_right _ hnc
 have hgF:g∈(Value.ownBlock (.slice (some ⟨g,og,none⟩) xs.length c)).toList:=by simp[Value.ownBlock]
 have hgn:g∉Fs.flatten:=fun hg'=>n3 g hgF g hg' rfl
 refine⟨G,v,g,og,xs.length,c,cur,rfl,hg,by omega,hcell,fun b hb=>List.mem_append.2 (.inr (hsub b (hG b hb))),List.mem_append.2 (.inl hgF),fun hg'=>hgn (hsub g (hG g hg')),hGn,hdeep,fun w' y' z v' G' hz hgw hsame hd' hn' hGF=>?_⟩
 obtain⟨Fi',f1,f2,f3⟩:=hput w' y' z v' G' hz (fun b hb hg'=>hsame b (List.mem_append.2 (.inr (hsub b hb))) hg' fun e=>hgn (e▸hsub b hb)) hd' hn' (fun b hb hF=>hGF b hb (List.mem_append.2 (.inr (hsub b hF))))
 have hapart:∀ (Ls:List (List Nat)),Ls.flatten.Nodup→∀ (i j:Nat) L M,Ls[i]? = some L→Ls[j]? = some M→i≠j→∀ b∈L,b∉M:=by
  intro Ls
  induction Ls with
  | nil=>intro _ i j L M h; simp at h
  | cons K Ls ih=>
   intro hn i j L M hL hM hij b hb hb'
   rw[List.flatten_cons,List.nodup_append] at hn
   cases i with
   | zero=>
    cases j with
    | zero=>exact hij rfl
    | succ j=>
     simp at hL hM; subst hL
     exact hn.2.2 b hb b (List.mem_flatten.2 ⟨M,List.mem_of_getElem? hM,hb'⟩) rfl
   | succ i=>
    cases j with
    | zero=>
     simp at hL hM; subst hM
     exact hn.2.2 b hb' b (List.mem_flatten.2 ⟨L,List.mem_of_getElem? hL,hb⟩) rfl
    | succ j=>exact ih hn.2.1 i j L M (by simpa using hL) (by simpa using hM) (by omega) b hb hb'
 have hset:∀ (Ls:List (List Nat)) (i:Nat),Ls.flatten.Nodup→Ls[i]? = some Fi→Fi'.Nodup→(∀ b∈Fi',b∈Ls.flatten→b∈Fi)→(Ls.set i Fi').flatten.Nodup∧∀ b∈(Ls.set i Fi').flatten,(b∈Ls.flatten∧b∉Fi)∨b∈Fi':=by
  intro Ls
  induction Ls with
  | nil=>intro i _ h; simp at h
  | cons K Ls ih=>
   intro i hn hi hf hin
   rw[List.flatten_cons,List.nodup_append] at hn
   obtain⟨m1,m2,m3⟩:=hn
   cases i with
   | zero=>
    simp at hi; subst hi
    rw[List.set_cons_zero,List.flatten_cons]
    refine⟨List.nodup_append.2 ⟨hf,m2,fun b hb b' hb' e=>?_⟩,fun b hb=>?_⟩
    ·subst e
     exact m3 b (hin b hb (by simp[hb'])) b hb' rfl
    ·rcases List.mem_append.1 hb with hb | hb
     ·exact .inr hb
     ·exact .inl ⟨by simp[hb],fun hb'=>m3 b hb' b hb rfl⟩
   | succ i=>
    rw[List.set_cons_succ,List.flatten_cons]
    have hi':Ls[i]? = some Fi:=by simpa using hi
    obtain⟨q1,q2⟩:=ih i m2 hi' hf fun b hb hb'=>hin b hb (by simp[hb'])
    have hFL:∀ b∈Fi,b∈Ls.flatten:=fun b hb=>List.mem_flatten.2 ⟨Fi,List.mem_of_getElem? hi',hb⟩
    refine⟨List.nodup_append.2 ⟨m1,q1,fun b hb b' hb' e=>?_⟩,fun b hb=>?_⟩
    ·subst e
     rcases q2 b hb' with ⟨h3,_⟩ | h3
     ·exact m3 b hb b h3 rfl
     ·exact m3 b hb b (hFL b (hin b h3 (by simp[hb]))) rfl
    ·rcases List.mem_append.1 hb with hb | hb
     ·exact .inl ⟨by simp[hb],fun hb'=>m3 b hb b (hFL b hb') rfl⟩
     ·rcases q2 b hb with ⟨h3,h4⟩ | h3
      ·exact .inl ⟨by simp[h3],h4⟩
      ·exact .inr h3
 have hFF:∀ b∈Fi',b∈Fs.flatten→b∈Fi:=by
  intro b hb hb'
  rcases f2 b hb with ⟨h3,_⟩ | h3
  ·exact h3
  ·exact hG b (hGF b h3 (List.mem_append.2 (.inr hb')))
 obtain⟨q1,q2⟩:=hset Fs i n2 hFi f1 hFF
 have hmem:∀ b∈(Fs.set i Fi').flatten,(b∈Fs.flatten∧b∉G)∨b∈G':=by
  intro b hb
  rcases q2 b hb with ⟨h3,h4⟩ | h3
  ·exact .inl ⟨h3,fun hg'=>h4 (hG b hg')⟩
  ·rcases f2 b h3 with ⟨h5,h6⟩ | h5
   ·exact .inl ⟨hsub b h5,h6⟩
   ·exact .inr h5
 have hgG':g∉G':=fun hg'=>hgn (hsub g (hG g (hGF g hg' (List.mem_append.2 (.inl hgF)))))
 have hlens:=ha.len
 refine⟨(Value.ownBlock (.slice (some ⟨g,og,none⟩) xs.length c)).toList++(Fs.set i Fi').flatten,List.nodup_append.2 ⟨n1,q1,fun b hb b' hb' e=>?_⟩,fun b hb=>?_,Fs.set i Fi',ess.set i (z07 off [v'] es),AllR.mk (by simp[hlens.1]) (by simp[hlens.2]) fun k x' K d hx' hK hd=>?_,rfl,?_⟩
 ·subst e
  have hbg:b=g:=by simpa[Value.ownBlock,eq_comm] using hb
  subst hbg
  rcases hmem b hb' with ⟨h3,_⟩ | h3
  ·exact hgn h3
  ·exact hgG' h3
 ·rcases List.mem_append.1 hb with hb | hb
  ·have hbg:b=g:=by simpa[Value.ownBlock,eq_comm] using hb
   subst hbg
   exact .inl ⟨List.mem_append.2 (.inl hgF),fun hg'=>hgn (hsub b (hG b hg'))⟩
  ·rcases hmem b hb with ⟨h3,h4⟩ | h3
   ·exact .inl ⟨List.mem_append.2 (.inr h3),h4⟩
   ·exact .inr h3
 ·by_cases hki:k=i
  ·subst hki
   rw[List.getElem?_set_self hil] at hx'
   rw[List.getElem?_set_self (by rw[hlens.1]; exact hil)] at hK
   rw[List.getElem?_set_self (by rw[hlens.2]; exact hil)] at hd
   simp only[Option.some.injEq] at hx' hK hd
   subst hx'; subst hK; subst hd
   exact f3
  ·rw[List.getElem?_set_ne (fun e=>hki e.symm)] at hx' hK hd
   obtain⟨K',d',hK',hd'',hR2⟩:=ha.get hx'
   rw[hK] at hK'
   rw[hd] at hd''
   simp only[Option.some.injEq] at hK' hd''
   subst hK'; subst hd''
   have hKF:∀ b∈K,b∈Fs.flatten:=fun b hb=>List.mem_flatten.2 ⟨K,List.mem_of_getElem? hK,hb⟩
   exact Deep.congr t hR2 fun b hb=>hsame b (List.mem_append.2 (.inr (hKF b hb))) (fun hbG=>hapart Fs n2 k i K Fi hK hFi hki b hb (hG b hbG)) fun e=>hgn (e▸hKF b hb)
 ·have hes2:((ess.set i (z07 off [v'] es))).flatten=z07 (i*t.size+off) [v'] ess.flatten:=by
   rw[←z7c hsz hes (by simp; omega)]
  have hol:=ho.1
  refine⟨by rw[hes2,z2p (by rw[hol]; simp; omega),hol,List.length_set],.inr ⟨g,og,c,_,by rw[List.length_set],hgw,by rw[List.length_set]; exact hnc,hcm,?_,?_⟩⟩
  ·rw[List.size_toArray,z2p (by simp; omega)]; simpa using hcs
  ·rw[List.length_set,List.toList_toArray,Nat.add_assoc,zac (by simp; omega) (by simp; omega) htk,hes2]
end Go.AM
