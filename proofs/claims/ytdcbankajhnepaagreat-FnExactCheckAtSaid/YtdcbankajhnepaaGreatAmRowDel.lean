/- slices.DeleteFunc at a row of ours whose elements are of one cell: whatever the function value lays. The walk is that of the kit's Derived/Shelf/SlicesE/DeleteFunc.lean and IndexFunc.lean, over other worlds. No condition. -/
import Derived.Shelf.SlicesE.DeleteFunc
import Derived.Test.YtdcbankajhnepaaGreatAmRow
set_option linter.unusedVariables false
set_option linter.unusedSimpArgs false
namespace Go.Proofs
open Go.Shelf Go.RowKit Go.Lib Go.Sort Go.AM
variable {P:Program} {ρ:Ren}
set_option maxHeartbeats 1000000 in
theorem zwo (L:SlLaysH.n6 P ρ) (cell:Nat→Value) (p:Nat→Bool) (g:Nat) (lb:Array Value) (eg:∀ args w,(callFunc g args).run P w=.ok (.enter g args) w) (b off n c:Nat) (w:World) (S:World→Prop)
  (hcell:∀ W,S W→∀ j,j<n→W.cell? ⟨b,off+j,none⟩=some (cell j)) (hcall:∀ W,S W→∀ j,j<n→Calls P g (#[cell j]++lb) W fun e w'=>e=.returned (.bool (p j))∧S w')
  (hbig:n≤9223372036854775807) (hw:S w) (r:Int) (hr:(r=-1∧∀ j,j<n→p j=false)∨∃ k:Nat,k<n∧r=k∧p k=true∧∀ j,j<k→p j=false):
  Calls P (ρ.f 6) #[.slice (some ⟨b,off,none⟩) n c,.func (.func g) #[] lb] w fun e w'=>e=.returned (.int .i64 r)∧S w':=by
 have mixed:=L.mixed; have t0:=L.t0; have a0:=L.a0; have z0:=L.z0; have v0:=L.v0; have t3:=L.t3; have a3:=L.a3; have z3:=L.z3; have v3:=L.v3; have t4:=L.t4; have a4:=L.a4; have z4:=L.z4; have v4:=L.v4; have t22:=L.t22; have a22:=L.a22; have z22:=L.z22; have v22:=L.v22; have a23:=L.a23; have z23:=L.z23; have t25:=L.t25; have a25:=L.a25; have z25:=L.z25; have v25:=L.v25
 have HCE:Aside (∀ W,S W→∀ j,j<n→W.cell? ⟨b,off+j,none⟩=some (cell j)):=hcell
 have HCA:Aside (∀ W,S W→∀ j,j<n→Calls P g (#[cell j]++lb) W fun e w'=>e=.returned (.bool (p j))∧S w'):=hcall
 have HW:Aside (S w):=hw
 have HR:Aside ((r=-1∧∀ j,j<n→p j=false)∨∃ k:Nat,k<n∧r=k∧p k=true∧∀ j,j<k→p j=false):=hr
 clear hcell hcall hw hr
 obtain⟨_,_,FG⟩:=L.f6
 go_enter FG,SlBodyH.n6_ntmps ρ
 go_wp2
 go_loopg [5,8] n (fun gg _ s8 wr=>∃ kk:Nat,kk≤n∧n - kk≤gg∧s8=.int .i64 kk∧Aside (S wr∧∀ j,j<kk→p j=false))
 case atStart=>exact⟨0,Nat.zero_le _,by omega,rfl,⟨HW.out,fun j hj=>absurd hj (Nat.not_lt_zero _)⟩⟩
 case round=>
  obtain⟨kk,hkk,hg,rfl,A⟩:=hrel
  by_cases hlt:kk<n
  ·have hltz:(kk:Int)<(n:Int):=by omega
   have hcell:wr.cell? ⟨b,off+kk,none⟩=some (cell kk):=HCE.out wr A.out.1 kk hlt
   have hcall:=HCA.out wr A.out.1 kk hlt
   generalize cell kk=y at hcell hcall
   cases hq:p kk with
   | true=>
    rw[hq] at hcall
    go_wp2_with (go_at_fn g; refine hcall.mono ?_; rintro e w' ⟨rfl,hs⟩)
    go_ret
    refine⟨?_,hs⟩
    rcases HR.out with ⟨_,h0⟩ | ⟨k,hk,rfl,h1,h2⟩
    ·rw[h0 kk hlt] at hq; cases hq
    ·have:kk=k:=by
      rcases Nat.lt_trichotomy kk k with h | h | h
      ·rw[h2 kk h] at hq; cases hq
      ·exact h
      ·rw[A.out.2 k h] at h1; cases h1
     subst this; rfl
   | false=>
    rw[hq] at hcall
    go_wp2_with (go_at_fn g; refine hcall.mono ?_; rintro e w' ⟨rfl,hs⟩)
    go_roundg (n - (kk+1))
    case measure=>omega
    case rel=>
     refine⟨kk+1,by omega,by omega,by go_num,(show Aside _ from ⟨hs,fun j hj=>?_⟩)⟩
     by_cases e:j=kk
     ·subst e; exact hq
     ·exact A.out.2 j (by omega)
  ·have hltz:¬(kk:Int)<(n:Int):=by omega
   have:kk=n:=by omega
   subst this
   go_wp2
   go_ret
   refine⟨?_,A.out.1⟩
   rcases HR.out with ⟨rfl,h0⟩ | ⟨k,hk,rfl,h1,h2⟩
   ·rfl
   ·rw[A.out.2 k hk] at h1; cases h1
theorem zrc (p:Nat→Bool):∀ n,(∀ j,j<n→p j=false)∨∃ k,k<n∧p k=true∧∀ j,j<k→p j=false
 | 0=>.inl fun j hj=>absurd hj (Nat.not_lt_zero _)
 | n+1=>by
  rcases zrc p n with h | ⟨k,h1,h2,h3⟩
  ·cases hp:p n with
   | true=>exact .inr ⟨n,Nat.lt_succ_self _,hp,h⟩
   | false=>
    refine .inl fun j hj=>?_
    by_cases e:j=n
    ·rw[e]; exact hp
    ·exact h j (by omega)
  ·exact .inr ⟨k,by omega,h2,h3⟩
theorem zqu {S:Array Nat→World→Prop} {cell:Nat→Value} {blk off n:Nat} (hset:∀ dk W i u,S dk W→i<n→S (dk.setIfInBounds i u) (W.setCell ⟨blk,off+i,none⟩ (cell u))):
  ∀ (xs:List Nat) (dk:Array Nat) (W:World) (i:Nat),S dk W→i+xs.length≤n→S (lay dk i xs) (W.setCells blk (off+i) (xs.map cell))
 | [],dk,W,i,h,_=>h
 | x::xs,dk,W,i,h,hl=>by
  have hl:i+(xs.length+1)≤n:=by simpa using hl
  exact zqu hset xs _ _ (i+1) (hset dk W i x h (by omega)) (by omega)
set_option maxHeartbeats 4000000 in
set_option maxRecDepth 1000000 in
theorem zup (L:SlLaysH.n10 P ρ) (cell:Nat→Value) (hO:OneCell cell) (p:Nat→Bool) (g:Nat) (lb:Array Value) (eg:∀ args w,(callFunc g args).run P w=.ok (.enter g args) w) (zr:Nat) (v23:∀ w,(zeroValue (ρ.t 23)).run P w=.ok (cell zr) w)
  (blk off n cap:Nat) (w:World) (S:Array Nat→World→Prop)
  (hcell:∀ dk W,S dk W→dk.size=n∧∀ j,j<n→W.cell? ⟨blk,off+j,none⟩=some (cell dk[j]!)∧W.frozen? ⟨blk,off+j,none⟩=false)
  (hcall:∀ dk W,S dk W→∀ j,j<n→Calls P g (#[cell j]++lb) W fun e w'=>e=.returned (.bool (p j))∧S dk w')
  (hset:∀ dk W i u,S dk W→i<n→S (dk.setIfInBounds i u) (W.setCell ⟨blk,off+i,none⟩ (cell u)))
  (hbig:n≤9223372036854775807) (hcap:n≤cap) (hw:S (Array.range n) w):
  Calls P (ρ.f 10) #[.slice (some ⟨blk,off,none⟩) n cap,.func (.func g) #[] lb] w fun e w'=>e=.returned (.slice (some ⟨blk,off,none⟩) (keptUpTo (fun j=>!p j) (Array.range n) n).length cap) ∧
   ∃ zs:List Nat,S ((keptUpTo (fun j=>!p j) (Array.range n) n++zs).toArray) w':=by
 have mixed:=L.mixed; have t0:=L.t0; have a0:=L.a0; have z0:=L.z0; have v0:=L.v0; have t3:=L.t3; have a3:=L.a3; have z3:=L.z3; have v3:=L.v3; have t4:=L.t4; have a4:=L.a4; have z4:=L.z4; have v4:=L.v4; have t22:=L.t22; have a22:=L.a22; have z22:=L.z22; have v22:=L.v22; have a23:=L.a23; have z23:=L.z23; have t25:=L.t25; have a25:=L.a25; have z25:=L.z25; have v25:=L.v25
 have e6:∀ args w,(callFunc (ρ.f 6) args).run P w=.ok (.enter (ρ.f 6) args) w:=L.f6.enters rfl
 have hcl0:=hO.cells
 simp only[Value.cells] at hcl0
 have hst:=hO.store P
 have dj:∀ j,j<n→(Array.range n)[j]! = j:=fun j hj=>by rw[getElem!_pos _ j (by simpa using hj)]; simp
 have ds:(Array.range n).size=n:=by simp
 obtain⟨kp,HK⟩:∃ kp:Nat→Bool,Hid (kp=fun j=>!p j):=⟨_,rfl⟩
 rw[←HK.out]
 have HCE:Aside (∀ dk W,S dk W→dk.size=n∧∀ j,j<n→W.cell? ⟨blk,off+j,none⟩=some (cell dk[j]!)∧W.frozen? ⟨blk,off+j,none⟩=false):=hcell
 have HCA:Aside (∀ dk W,S dk W→∀ j,j<n→Calls P g (#[cell j]++lb) W fun e w'=>e=.returned (.bool (p j))∧S dk w'):=hcall
 have HSET:Aside (∀ dk W i u,S dk W→i<n→S (dk.setIfInBounds i u) (W.setCell ⟨blk,off+i,none⟩ (cell u))):=hset
 have HIF:=fun r hr=>zwo (P:=P) (ρ:=ρ) { L with } cell p g lb eg blk off n cap w (S (Array.range n)) (fun W hW j hj=>by rw[((hcell _ _ hW).2 j hj).1,dj j hj]) (fun W hW j hj=>hcall _ W hW j hj) hbig hw r hr
 rcases zrc p n with hall | ⟨k0,hk0,ht,hall⟩
 ·have hIF:=HIF (-1) (.inl ⟨rfl,hall⟩)
  have e3:keptUpTo kp (Array.range n) n=List.range n:=by
   rw[keptUpTo_all kp _ _ fun j hj=>by rw[HK.out]; show (!p j)=true; rw[hall j hj]; rfl]
   conv=>rhs; rw[←List.map_id (List.range n)]
   exact List.map_congr_left fun j hj=>dj j (List.mem_range.1 hj)
  have DJ:Aside (∀ j,j<n→(Array.range n)[j]! = j):=dj
  clear hcell hcall hset hw HIF hall dj
  obtain⟨_,_,FG⟩:=L.f10
  go_enter FG,SlBodyH.n10_ntmps ρ
  go_wp2_with (go_at_fn (ρ.f 6); refine hIF.mono ?_; rintro e w' ⟨rfl,hs⟩)
  go_ret
  rw[e3]
  exact⟨by simp,[],by simpa using hs⟩
 ·have hIF:=HIF k0 (.inr ⟨k0,hk0,rfl,ht,hall⟩)
  have hne1:((k0:Int)==-1)=false:=beq_eq_false_iff_ne.2 (by omega)
  have START:Aside (KeptInv kp (Array.range n) (k0+1) k0 (Array.range n)):=KeptInv.start (fun j hj=>by rw[HK.out]; show (!p j)=true; rw[hall j hj]; rfl) (by rw[HK.out]; show (!p k0)=false; rw[ht]; rfl)
  have DJ:Aside (∀ j,j<n→(Array.range n)[j]! = j):=dj
  clear hcell hcall hset hw HIF hall ht dj
  obtain⟨_,_,FG⟩:=L.f10
  go_enter FG,SlBodyH.n10_ntmps ρ
  go_wp2_with (go_at_fn (ρ.f 6); refine hIF.mono ?_; rintro e w' ⟨rfl,hs⟩)
  go_loopg [5,6,7] n (fun gg s5 s6 _ wr=>∃ (i j:Nat) (dk:Array Nat),s5=.int .i64 i∧s6=.int .i64 j∧j≤n∧n - j≤gg∧Aside (S dk wr)∧Aside (KeptInv kp (Array.range n) j i dk))
  case atStart=>exact⟨k0,k0+1,_,rfl,by go_num,by omega,by omega,hs,START⟩
  case round=>
   obtain⟨i,j,dk,rfl,rfl,hjd,hgg,W2,I2⟩:=hrel
   have hij:=I2.out.lt
   obtain⟨hds,hHk⟩:=HCE.out dk wr W2.out
   by_cases hlt:j<n
   ·have hltz:(j:Int)<(n:Int):=by omega
    obtain⟨cj,_⟩:=hHk j hlt
    obtain⟨ci,fi⟩:=hHk i (by omega)
    rw[I2.out.high j (by omega),DJ.out j hlt] at cj
    have hcall:=HCA.out dk wr W2.out j hlt
    have KEEP:Aside (p j=false→KeptInv kp (Array.range n) (j+1) (i+1) (dk.setIfInBounds i j)):=fun hq=>by
     have:=I2.out.keep (by simpa using hlt) (by rw[HK.out]; show (!p j)=true; rw[hq]; rfl)
     rwa [DJ.out j hlt] at this
    have SKIP:Aside (p j=true→KeptInv kp (Array.range n) (j+1) i dk):=fun hq=>I2.out.skip (by rw[HK.out]; show (!p j)=false; rw[hq]; rfl)
    have PUT:Aside (∀ W,S dk W→S (dk.setIfInBounds i j) (W.setCell ⟨blk,off+i,none⟩ (cell j))):=fun W hW=>HSET.out dk W i j hW (by omega)
    have CALL:Aside (∀ W,S dk W→W.cell? ⟨blk,off+i,none⟩=some (cell dk[i]!)∧W.frozen? ⟨blk,off+i,none⟩=false):=fun W hW=>(HCE.out dk W hW).2 i (by omega)
    clear hHk ci fi
    have CO:=hO j
    cases hq:p j with
    | false=>
     rw[hq] at hcall
     generalize dk[i]! = old at CALL
     go_wp2_with (go_at_fn g; refine hcall.mono ?_; rintro e w' ⟨rfl,hs⟩; obtain⟨ci,fi⟩:=CALL.out _ hs)
     go_roundg (n - (j+1))
     case measure=>omega
     case rel=>exact⟨i+1,j+1,dk.setIfInBounds i j,by go_num,by go_num,by omega,Nat.le_refl _,PUT.out _ hs,KEEP.out hq⟩
    | true=>
     rw[hq] at hcall
     go_wp2_with (go_at_fn g; refine hcall.mono ?_; rintro e w' ⟨rfl,hs⟩)
     go_roundg (n - (j+1))
     case measure=>omega
     case rel=>exact⟨i,j+1,dk,rfl,by go_num,by omega,Nat.le_refl _,hs,SKIP.out hq⟩
   ·obtain rfl:j=n:=by omega
    have hltz:¬(j:Int)<(j:Int):=by omega
    have hcl:∀ ty,(Builtin.clear_ #[ρ.t 22] ty #[.slice (some ⟨blk,off+i,none⟩) (j - i) (cap - i)]).run P wr=.ok (.tuple #[]) (wr.setCells blk (off+i) (List.replicate (j - i) (cell zr))):=
     fun ty=>Lib.run_clear_slice wr _ _ ty _ t22 v23 (hO.cells zr) (hO zr) blk (off+i) _ _ (by omega) (fun t ht=>by rw[show off+i+t=off+(i+t) by omega,(hHk (i+t) (by omega)).1]; rfl) (fun t ht=>by rw[show off+i+t=off+(i+t) by omega]; exact (hHk (i+t) (by omega)).2)
    clear hHk
    go_wp2
    go_ret
    have hI:=I2.out
    refine⟨by rw[hI.len]; rfl,List.replicate (j - i) zr,?_⟩
    have hd:=(show KeptInv kp (Array.range j) (Array.range j).size i dk by simpa using hI).done zr
    simp only[Array.size_range] at hd
    rw[←hd,←List.map_replicate]
    exact zqu HSET.out _ _ _ _ W2.out (by simp; omega)
set_option maxHeartbeats 1000000 in
theorem zjg (L:SlLaysH.n10 P ρ) (a:Option Addr) (c:Nat) (fv:Value) (w:World):
  Calls P (ρ.f 10) #[.slice a 0 c,fv] w fun e w'=>e=.returned (.slice a 0 c)∧w'=w:=by
 have mixed:=L.mixed; have t0:=L.t0; have a0:=L.a0; have z0:=L.z0; have v0:=L.v0; have t3:=L.t3; have a3:=L.a3; have z3:=L.z3; have v3:=L.v3; have t4:=L.t4; have a4:=L.a4; have z4:=L.z4; have v4:=L.v4; have t22:=L.t22; have a22:=L.a22; have z22:=L.z22; have v22:=L.v22; have a23:=L.a23; have z23:=L.z23; have t25:=L.t25; have a25:=L.a25; have z25:=L.z25; have v25:=L.v25
 have e6:∀ args w,(callFunc (ρ.f 6) args).run P w=.ok (.enter (ρ.f 6) args) w:=L.f6.enters rfl
 have hIF:=AnyE.slices_IndexFunc_empty (P:=P) (ρ:=ρ) { L with } a c fv w
 obtain⟨_,_,FG⟩:=L.f10
 go_enter FG,SlBodyH.n10_ntmps ρ
 go_wp2_with (go_at_fn (ρ.f 6); refine hIF.mono ?_; rintro e w' ⟨rfl,rfl⟩)
 go_ret
 exact⟨rfl,rfl⟩
theorem zah:∀ {css:List (List Value)},(∀ c∈css,c.length=1)→css.flatten=css.map (·.headD undef)
 | [],_=>rfl
 | c::css,h=>by
  have hc:=h c (by simp)
  match c,hc with
  | [x],_=>rw[List.flatten_cons,zah fun c hc=>h c (List.mem_cons_of_mem _ hc)]; rfl
theorem zwz {w:World} {e:TypeId} {g og n cap k:Nat} {xs:List Value} (h:OwnR w e 1 (.slice (some ⟨g,og,none⟩) n cap) n xs) (hk:k≤n):OwnR w e 1 (.slice (some ⟨g,og,none⟩) k cap) k (xs.take k):=by
 obtain⟨cur,hg,_,hnc,hcm,hcs,htake⟩:=h.at
 refine⟨by have:=h.1; simp; omega,.inr ⟨g,og,cap,cur,rfl,hg,by omega,hcm,hcs,?_⟩⟩
 rw[←htake,List.take_take]
 congr 1
 omega
section
variable {w:World} {e:TypeId} {g og n cap:Nat} {xs:List Value}
theorem zif (h:OwnR w e 1 (.slice (some ⟨g,og,none⟩) n cap) n xs) (j:Nat) (hj:j<n):w.cell? ⟨g,og+j,none⟩=xs[j]?:=by
 have hl:=h.1
 rw[List.getElem?_eq_getElem (by omega)]
 exact h.cells j _ (List.getElem?_eq_getElem (by omega))
theorem zep (h:OwnR w e 1 (.slice (some ⟨g,og,none⟩) n cap) n xs) (j:Nat):w.frozen? ⟨g,og+j,none⟩=false:=by
 obtain⟨cur,hg,_⟩:=h.at
 simp[World.frozen?,hg]
theorem zus (h:OwnR w e 1 (.slice (some ⟨g,og,none⟩) n cap) n xs) (j:Nat) (hj:j<n) (u:Value):
  OwnR (w.setCell ⟨g,og+j,none⟩ u) e 1 (.slice (some ⟨g,og,none⟩) n cap) n (xs.set j u)∧Fr (fun k=>k=g) w (w.setCell ⟨g,og+j,none⟩ u):=by
 obtain⟨cur,hg,_,hnc,hcm,hcs,ht⟩:=h.at
 rw[setCell_eq_setRow w g (og+j) cur e (0,0) u hg]
 have hf:=Fr.setRow w g (cur.setIfInBounds (og+j) u)
 refine⟨⟨by rw[List.length_set]; exact h.1,.inr ⟨g,og,cap,_,rfl,setRow_heap w g cur _ e _ hg,hnc,hcm,by rw[Array.size_setIfInBounds]; exact hcs,?_⟩⟩,hf⟩
 rw[Array.toList_setIfInBounds,←ht]
 apply List.ext_getElem?
 intro k
 rw[List.getElem?_take,List.getElem?_set]
 by_cases hk:k<n*1
 ·rw[if_pos hk,List.getElem?_drop,List.getElem?_set]
  by_cases hjk:j=k
  ·subst hjk
   rw[if_pos rfl,if_pos rfl,if_pos (by rw[Array.length_toList]; omega),if_pos (by rw[List.length_take,List.length_drop,Array.length_toList]; omega)]
  ·rw[if_neg (by omega),if_neg hjk,List.getElem?_take,if_pos hk,List.getElem?_drop]
 ·rw[if_neg hk]
  by_cases hjk:j=k
  ·omega
  ·rw[if_neg hjk,List.getElem?_take,if_neg hk]
end
theorem zqc (L:SlLaysH.n10 P ρ) {e:TypeId} {zv:Value} (hz:zv.oneCell'=true) (v23:∀ w,(zeroValue (ρ.t 23)).run P w=.ok zv w):zmw P (ρ.f 10) ⟨.filter,e,1,false⟩:=by
 intro w v css hcss how fv bs hlen hsays
 simp only at hcss how
 have h1:∀ c∈css,c.length=1:=fun c hc=>(hcss c hc).1
 obtain⟨h,lb,rfl,hs⟩:=hsays
 by_cases hn:css=[]
 ·subst hn
  obtain⟨A,c,rfl,hc⟩:=z0u how
  obtain rfl:bs=[]:=List.length_eq_zero_iff.1 (by simpa using hlen)
  refine (zjg L A c _ w).mono ?_
  rintro r w' ⟨rfl,rfl⟩
  exact⟨_,rfl,rfl,by simpa[z4d] using how,Fr.refl _ _⟩
 obtain⟨n,hnn⟩:∃ n,n=css.length:=⟨_,rfl⟩
 have hpos:0<n:=by rw[hnn]; exact List.length_pos_iff.2 hn
 rw[←hnn] at how hlen
 have how0:=how
 obtain⟨hl0,hor⟩:=how
 rcases hor with ⟨_,h0⟩ | ⟨g,og,cap,cur,rfl,hg,hnc,hcm,hcs,htake⟩
 ·omega
 obtain⟨cell,hcell⟩:∃ cell:Nat→Value,cell=fun i=>if i<n then (css.getD i []).headD undef else zv:=⟨_,rfl⟩
 have hcz:cell n=zv:=by rw[hcell]; simp
 have hci:∀ i,i<n→css.getD i []=[cell i]:=by
  intro i hi
  have hi':i<css.length:=by omega
  have e:css.getD i []=css[i]:=by simp[List.getD,List.getElem?_eq_getElem hi']
  have:=h1 _ (List.getElem_mem hi')
  rw[hcell]
  simp only[hi,if_true,e]
  match hm:css[i],this with
  | [x],_=>rfl
 have hO:OneCell cell:=by
  intro i
  by_cases hi:i<n
  ·have:=hci i hi
   have hi':i<css.length:=by omega
   have e:css.getD i []=css[i]:=by simp[List.getD,List.getElem?_eq_getElem hi']
   rw[e] at this
   exact (hcss _ (List.getElem_mem hi')).2 _ (by rw[this]; simp)
  ·rw[hcell]; simp only[hi,if_false]; exact hz
 have hflat:css.flatten=(List.range n).map cell:=by
  rw[zah h1]
  apply List.ext_getElem
  ·simp[hnn]
  ·intro i q1 q2
   have hi:i<n:=by simp at q2; omega
   have:=hci i hi
   have hi':i<css.length:=by omega
   have e:css.getD i []=css[i]:=by simp[List.getD,List.getElem?_eq_getElem hi']
   rw[e] at this
   simp[this]
 rw[hflat] at how0
 have he:z1m P h:=by
  have hb:0<bs.length:=by omega
  exact (hs [cell 0] (.bool bs[0]) ⟨0,[cell 0],bs[0],by
   have:=hci 0 hpos
   have hi':0<css.length:=by omega
   rw[show css.getD 0 []=css[0] by simp[List.getD,List.getElem?_eq_getElem hi']] at this
   rw[List.getElem?_eq_getElem hi',this],List.getElem?_eq_getElem hb,rfl,rfl⟩).1
 have fin:=zup L cell hO (fun i=>bs.getD i true) h lb he n (by rw[hcz]; exact v23) g og n cap w (fun dk W=>Fr (fun k=>k=g) w W∧OwnR W e 1 (.slice (some ⟨g,og,none⟩) n cap) n (dk.toList.map cell))
  (fun dk W hW=>by
   have hd:dk.size=n:=by have:=hW.2.1; simpa using this
   refine⟨hd,fun j hj=>?_⟩
   refine⟨?_,zep hW.2 j⟩
   rw[zif hW.2 j (by omega)]
   simp[getElem!_pos dk j (by omega),show j<dk.size by omega])
  (fun dk W hW j hj=>by
   have hj':j<bs.length:=by omega
   have hjc:j<css.length:=by omega
   have hcj:=hci j hj
   rw[show css.getD j []=css[j] by simp[List.getD,List.getElem?_eq_getElem hjc]] at hcj
   have hh:=(hs [cell j] (.bool bs[j]) ⟨j,[cell j],bs[j],by rw[List.getElem?_eq_getElem hjc,hcj],List.getElem?_eq_getElem hj',rfl,rfl⟩).2 W hW.1.size (fun k hk hne=>hW.1.block k hk fun hkg=>hne (by rw[hkg]; rfl))
   refine hh.mono ?_
   rintro r W' ⟨rfl,hfr⟩
   refine⟨by simp[List.getD,List.getElem?_eq_getElem hj'],hW.1.on hfr (fun i hi=>hi.elim),zd0 hW.2 fun b hb=>hfr.block b (zie hW.2 hb) id⟩)
  (fun dk W i u hW hi=>by
   obtain⟨q1,q2⟩:=zus hW.2 i hi (cell u)
   refine⟨hW.1.on q2 fun i hi _=>hi,?_⟩
   rw[show (dk.setIfInBounds i u).toList.map cell=(dk.toList.map cell).set i (cell u) by simp[List.map_set]]
   exact q1)
  (by simp[maxLen] at hcm; omega) hnc ⟨Fr.refl _ _,by simpa using how0⟩
 have hk:keptUpTo (fun j=>!(bs.getD j true)) (Array.range n) n=z4d bs:=by
  unfold keptUpTo z4d
  rw[hlen]
  conv=>rhs; rw[←List.map_id (List.filter _ _)]
  refine List.map_congr_left fun j hj=>?_
  have:=List.mem_range.1 (List.mem_filter.1 hj).1
  rw[getElem!_pos _ j (by simpa using this)]; simp
 rw[hk] at fin
 refine fin.mono ?_
 rintro r w' ⟨rfl,zs,hfr,hown⟩
 have hkn:(z4d bs).length≤n:=by
  have:=hown.1
  simp at this
  omega
 refine⟨_,rfl,rfl,?_,⟨hfr.os,hfr.tape,hfr.output,hfr.size,fun k hk hne=>hfr.block k hk fun hkg=>hne (by rw[hkg]; rfl),hfr.drawn⟩⟩
 have hcut:=zwz hown hkn
 have:(((z4d bs++zs).toArray.toList.map cell).take (z4d bs).length)=((z4d bs).map (css.getD · [])).flatten:=by
  have e1:(z4d bs).map (css.getD · [])=(z4d bs).map fun i=>[cell i]:=List.map_congr_left fun i hi=>hci i (by have:=(zne bs).2 i hi; omega)
  have e2:∀ l:List Nat,(l.map fun i=>[cell i]).flatten=l.map cell:=fun l=>by
   induction l with
   | nil=>rfl
   | cons i l ih=>rw[List.map_cons,List.flatten_cons,ih]; rfl
  rw[e1,e2]
  simp
 rw[this] at hcut
 exact hcut
end Go.Proofs
