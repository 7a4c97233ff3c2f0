/- Code. No condition. -/
import Derived.Test.YtdcbankajhnepaaGreatAmNil
set_option linter.unusedVariables false
set_option linter.unusedSimpArgs false
namespace Go.AM
def ofEx:Ex→Exit
 | .normal=>.normal
 | .exit id=>.exit id
 | .ret=>.ret
section
variable {C:Ctx} {st:St} {gh:Gh} {a:Act} {w:World}
theorem zvu {P:Program} {c:Code} {Q:Exit→Act→World→Prop} (R:Nat→Act→World→Prop) (zero:∀ a w,¬R 0 a w) (round:∀ n a w,R (n+1) a w→c.wp P (Exit.then (R n) Q) a w):
  ∀ n a w,R n a w→(Code.loop c).wp P Q a w:=by
 intro n a w hR b k cs
 have key:∀ n a w,R n a w→∃ e a' w',Q e a' w'∧Arrives P (lone (b.at a (.code c::.inLoop c::k)) cs w) b k cs e a' w':=by
  intro n
  induction n with
  | zero=>intro a w h; exact absurd h (zero a w)
  | succ n ih=>
   intro a w h
   obtain⟨e,a₁,w₁,hq,harr⟩:=round n a w h b (.inLoop c::k) cs
   cases e with
   | normal=>
    obtain⟨e₂,a₂,w₂,hq₂,harr₂⟩:=ih a₁ w₁ hq
    exact⟨e₂,a₂,w₂,hq₂,.of_steps (Steps.trans harr (.one step_inLoop)) harr₂⟩
   | exit id=>exact⟨_,a₁,w₁,hq,.pass (x:=.inLoop c) rfl (fun _ _=>.inl (by simp)) harr⟩
   | goto l=>exact⟨_,a₁,w₁,hq,.pass (x:=.inLoop c) rfl (fun _ _=>.inl (by simp)) harr⟩
   | ret=>exact⟨_,a₁,w₁,hq,.pass (x:=.inLoop c) rfl (fun _ _=>.inl (by simp)) harr⟩
   | panic ch=>exact⟨_,a₁,w₁,hq,.pass (x:=.inLoop c) rfl (fun _ _=>.inl (by simp)) harr⟩
   | outgrown=>exact⟨_,a₁,w₁,hq,.pass (x:=.inLoop c) rfl (fun _ _=>.inl (by simp)) harr⟩
 obtain⟨e,a',w',hq,harr⟩:=key n a w hR
 exact⟨e,a',w',hq,.of_steps (.one step_loop) harr⟩
def blkK {ρ:Type} (id:Nat) (K:Ex→St→Option ρ):Ex→St→Option ρ:=fun e st'=>match e with
 | .exit j=>if j==id then K .normal st' else K (.exit j) st'
 | e=>K e st'
def zry (P:Program) (Γ:Facts) (inl:INL):Prop:=∀ (C:Ctx) (st:St) (gh:Gh) (a:Act) (w:World) (r f:Nat) (ρ:Type) (y:ρ) (K:SV→St→Option ρ) (g:FuncId) (caps:List (Nat×Nat)) (args:List SV) (vals:List Value),
 C.P=P→C.Γ=Γ→Inv r f st→Rel C st gh a w→(∀ p∈caps,∃ cs,obj st.objs p.1=.box cs)→All2 (SVOk (LeafOk C w gh st.objs)) args vals→inl ρ g caps args st K=some y →
 z1m P g∧Calls P g (vals.toArray++zmu gh caps) w fun e w'=>∃ v sv st' gh',e=.returned v∧Inv r f st'∧Rel C st' gh' a w'∧SVOk (LeafOk C w' gh' st'.objs) sv v∧K sv st'=some y
theorem ztz (P:Program) (Γ:Facts):zry P Γ y00:=fun _ _ _ _ _ _ _ _ _ _ _ _ _ _ _ _ _ _ _ _ h=>by cases h
theorem zng {E:Env} {o:Oper} {g:FuncId} {caps:List (Nat×Nat)} {args:List SV} (h:zxk E st o=some (g,caps,args)):
  ∃ c f,o.op=.call c∧c.callee=.value f∧(st.ev f).leaf=.fn g caps∧args=c.args.toList.map st.ev:=by
 unfold zxk at h
 split at h
 ·rename_i c hc
  split at h
  ·rename_i f hf
   split at h
   ·rename_i g' caps' hl
    split at h
    ·simp only[Option.some.injEq,Prod.mk.injEq] at h
     obtain⟨rfl,rfl,rfl⟩:=h
     exact⟨c,f,hc,hf,hl,rfl⟩
    ·cases h
   ·cases h
  ·cases h
 ·cases h
theorem Inv.realloc {r f:Nat} {st st':St} {E:Env} {o:Oper} (h:Inv r f st) (hs:zkv E st o=some st'):Inv r f st':=by
 unfold zkv at hs
 split at hs
 case h_2=>cases hs
 split at hs
 case h_2=>cases hs
 split at hs
 case h_2=>cases hs
 split at hs
 case h_2=>cases hs
 split at hs
 case isFalse=>cases hs
 split at hs
 case h_2=>cases hs
 rename_i hk
 simp only[Option.some.injEq] at hs
 subst hs
 obtain⟨k1,k2,k3,_⟩:=z0f hk
 have:=h.rl; have:=h.fl
 exact⟨k1.trans h.ro,k2.trans h.fx,by simp only[St.put,List.length_set]; omega,by simp only[St.put,List.length_set]; omega⟩
theorem z72 {ρ:Type} {E:Env} (hE:EnvOk C.P C.Γ E) {cb:CB} (hcb:CBOk C.P C.Γ cb) {inl:INL} (hinl:zry C.P C.Γ inl) {r f:Nat} {ops:Array Oper} {y:ρ} {K:St→Option ρ} {Q:Exit→Act→World→Prop}
  (hK:∀ st' gh' a' w',Inv r f st'→Rel C st' gh' a' w'→K st'=some y→Q .normal a' w'):∀ (rest:List Oper) (i:Nat) (st:St) (gh:Gh) (a:Act) (w:World),ops.toList.drop i=rest→Inv r f st→Rel C st gh a w→z73 E cb inl ops.toList i rest st K=some y →
   wpOps C.P ops Q (List.range' i rest.length) a w
 | [],i,st,gh,a,w,_,hI,h,hs=>hK st gh a w hI h hs
 | o::rest,i,st,gh,a,w,hd,hI,h,hs=>by
  have hoi:ops[i]? = some o:=by
   have:(ops.toList.drop i)[0]? = some o:=by rw[hd]; rfl
   rw[List.getElem?_drop] at this
   simpa using this
  have hd':ops.toList.drop (i+1)=rest:=by rw[←List.tail_drop,hd]; rfl
  simp only[z73] at hs
  simp only[List.length_cons,List.range'_succ,wpOps,hoi]
  split at hs
  ·rename_i hg
   rw[if_pos (z97 h hg)]
   left
   split at hs
   ·rename_i g caps args hin
    obtain⟨c,fo,ho,hc,hf,rfl⟩:=zng hin
    have hfv:=h.leaf fo
    rw[hf] at hfv
    obtain⟨hen,hcalls⟩:=hinl C st gh a w r f ρ y _ g caps _ _ rfl rfl hI h hfv.1.2 (zjb h c.args.toList) hs
    have hval:a.eval fo=.func (.func g) #[] (zmu gh caps):=hfv.1.1
    unfold Oper.wp
    rw[zae h ho hc hval hen]
    simp only[Oper.upon]
    refine hcalls.mono ?_
    rintro e w' ⟨v,sv,st',gh',rfl,hI',h',hv,hk⟩
    exact z72 hE hcb hinl hK rest (i+1) (st'.put o.dst sv) gh' _ w' hd' ⟨hI'.ro,hI'.fx,hI'.rl,hI'.fl⟩ (h'.put hv) hk
   ·split at hs
    ·rename_i st1 hre
     exact zuv hE h hre fun gh' a' w' hr=>z72 hE hcb hinl hK rest (i+1) st1 gh' a' w' hd' (hI.realloc hre) hr hs
    have nx:∀ b:Bool,(execOp a.eval o).run C.P w=.ok (.value (.bool b)) w→z73 E cb inl ops.toList (i+1) rest (st.put o.dst (zbu b)) K=some y →
      o.wp C.P a w (fun a' w'=>wpOps C.P ops Q (List.range' (i+1) rest.length) a' w') Q:=fun b hr hs=>
     ze1 hr (z72 hE hcb hinl hK rest (i+1) (st.put o.dst (zbu b)) gh _ w hd' ⟨hI.ro,hI.fx,hI.rl,hI.fl⟩ (h.put (z0j (t:=.bool) rfl rfl)) hs)
    split at hs
    ·rename_i neg hnil
     obtain⟨b,hr,hb⟩:=zqj hE h hnil
     subst hb
     exact nx _ hr hs
    ·rename_i neg emp hnil
     obtain⟨b,hr,hb⟩:=zqj hE h hnil
     cases emp with
     | false=>
      simp only[Bool.false_eq_true,if_false] at hs
      have hb:b=neg:=hb
      subst hb
      exact nx _ hr hs
     | true=>
      simp only[if_true] at hs
      obtain⟨s1,s2⟩:=zvj hs
      cases b with
      | true=>exact nx _ hr s1
      | false=>exact nx _ hr s2
    split at hs
    ·rename_i tx hex
     obtain⟨st1,h1,h2⟩:=Tree.run_some _ hs
     obtain⟨e1,e2,e3⟩:=zve hex h1
     have hI':Inv r f st1:=⟨e1.trans hI.ro,e2.trans hI.fx,by have:=hI.rl; omega,by have:=hI.fl; omega⟩
     exact y09 hE hcb h (by rw[hI.fx]; exact hI.fl) (by rw[hI.ro]; exact hI.rl) hex h1 fun gh' a' w' hr=>z72 hE hcb hinl hK rest (i+1) st1 gh' a' w' hd' hI' hr h2
    obtain⟨⟨st1,c⟩,h1,h2⟩:=Tree.run_some _ hs
    rw[zto] at h2
    exact zs6 hE hcb h (by rw[hI.fx]; exact hI.fl) (by rw[hI.ro]; exact hI.rl) h1 fun gh' a' w' hr=>z72 hE hcb hinl hK rest (i+1) st1 gh' a' w' hd' (hI.step h1) hr h2
  ·rename_i hg
   rw[if_neg (by rw[z97 h hg]; simp)]
   exact z72 hE hcb hinl hK rest (i+1) (st.put o.dst (.one .skip)) gh _ w hd' ⟨hI.ro,hI.fx,hI.rl,hI.fl⟩ (zwh h o.dst) hs
  ·cases hs
theorem y1g {ρ:Type} {E:Env} (hE:EnvOk C.P C.Γ E) {cb:CB} (hcb:CBOk C.P C.Γ cb) {inl:INL} (hinl:zry C.P C.Γ inl) {r f id:Nat} {ops:Array Oper} {y:ρ} {st:St} {gh:Gh} {a:Act} {w:World} {K:St→Option ρ} {Q:Exit→Act→World→Prop} (hI:Inv r f st) (h:Rel C st gh a w)
  (ht:zw1 E ops.toList=true) (hs:zi9 E cb ops.toList ops.toList.dropLast st (fun st'=>match ops.toList.getLast? with
    | some o=>match zxk E st' o with
     | some (g,caps,args)=>inl ρ g caps args st' fun v st''=>K (st''.put o.dst v)
     | none=>none
    | none=>none)=some y) (hK:∀ st' gh' a' w',Inv r f st'→Rel C st' gh' a' w'→K st'=some y→Q .normal a' w'):(Code.region id ops true).wp C.P Q a w:=by
 unfold zw1 at ht
 split at ht
 case h_2=>cases ht
 rename_i o hlast
 simp only[Bool.and_eq_true,Nat.blt_eq] at ht
 obtain⟨hgn,_,hlen,hbb⟩:=ht
 have hbb:=Nat.eq_of_beq_eq_true hbb
 simp only[Array.length_toList] at hlen hbb
 have hfl:ops.toList.dropLast.length=ops.size - 1:=by simp
 have hol:ops[ops.size - 1]? = some o:=by
  rw[List.getLast?_eq_getElem?] at hlast
  simpa using hlast
 refine zn6 hE hcb hI h (fun k q hk=>?_) (by omega) (fun j h1 h2 i hi=>?_) hs fun st' gh' a' w' listed hI' h' hk hbk hls hl=>?_
 ·rw[List.getElem?_dropLast] at hk
  split at hk
  ·exact hk
  ·cases hk
 ·rw[hfl] at h1 hi
  rw[show j=ops.size - 1 by omega,hbb,Nat.testBit_two_pow_sub_one]
  simpa using hi
 ·rw[hfl,show ops.size - (ops.size - 1)=1 by omega]
  rw[hfl,show ops.size - (ops.size - 1)=1 by omega] at hl
  have hlj:∀ j,j<ops.size∧listed.getD j true=false↔j=ops.size - 1:=fun j=>by rw[←hl j]; simp
  rw[hlast] at hk
  simp only at hk
  split at hk
  case h_2=>cases hk
  rename_i g caps args hin
  refine⟨fun hnil=>?_,fun j hj=>?_⟩
  ·exfalso
   have:ops.size - 1∈Region.ready .any ops listed:=by
    refine mem_ready.2 ⟨((hlj _).2 rfl).2,o,hol,fun e he hb=>?_⟩
    have hlt:=hbk _ _ hol e (by simpa using he) hb
    cases hle:listed.getD e.on false with
    | true=>rfl
    | false=>
     have h1:e.on<listed.size:=by omega
     have:=(hlj e.on).1 ⟨by omega,by simpa[h1] using hle⟩
     omega
   rw[hnil] at this; cases this
  ·obtain⟨h0,oj,hoj,_⟩:=mem_ready.1 hj
   obtain rfl:=(hlj j).1 ⟨(Array.getElem?_eq_some_iff.1 hoj).1,h0⟩
   obtain rfl:oj=o:=by rw[hol] at hoj; exact (Option.some.inj hoj).symm
   obtain⟨c,fo,ho,hc,hf,rfl⟩:=zng hin
   have hgd:z1a ops.toList st' oj=some true:=by
    unfold z1a
    cases hg:oj.guard with
    | none=>rfl
    | some _=>rw[hg] at hgn; cases hgn
   unfold wpOp
   rw[hoj]
   simp only
   rw[if_pos (z97 h' hgd)]
   left
   have hfv:=h'.leaf fo
   rw[hf] at hfv
   obtain⟨hen,hcalls⟩:=hinl C st' gh' a' w' r f ρ y _ g caps _ _ rfl rfl hI' h' hfv.1.2 (zjb h' c.args.toList) hk
   have hval:a'.eval fo=.func (.func g) #[] (zmu gh' caps):=hfv.1.1
   unfold Oper.wp
   rw[zae h' ho hc hval hen]
   simp only[Oper.upon]
   refine hcalls.mono ?_
   rintro e w2 ⟨v,sv,st2,gh2,rfl,hI2,h2,hv,hk2⟩
   refine⟨?_,hK (st2.put oj.dst sv) gh2 _ w2 ⟨hI2.ro,hI2.fx,hI2.rl,hI2.fl⟩ (h2.put hv) hk2⟩
   cases hr:Region.ready .any ops (listed.setIfInBounds (ops.size - 1) true) with
   | nil=>rfl
   | cons j' _=>
    have hj':j'∈Region.ready .any ops (listed.setIfInBounds (ops.size - 1) true):=by rw[hr]; simp
    obtain⟨q0,q,hq,_⟩:=mem_ready.1 hj'
    have hjs:=(Array.getElem?_eq_some_iff.1 hq).1
    by_cases e:j'=ops.size - 1
    ·subst e
     simp[show ops.size - 1<listed.size by omega] at q0
    ·rw[getD_set_ne true (fun e'=>e e'.symm)] at q0
     exact absurd ((hlj j').1 ⟨hjs,q0⟩) e
theorem z54 {ρ:Type} {N:Nat} {E:Env} (hE:EnvOk C.P C.Γ E) {cb:CB} (hcb:CBOk C.P C.Γ cb) {inl:INL} (hinl:zry C.P C.Γ inl) {r f:Nat} {y:ρ}:∀ (c:Code) {st:St} {gh:Gh} {a:Act} {w:World} {K:Ex→St→Option ρ} {Q:Exit→Act→World→Prop},
  Inv r f st→Rel C st gh a w→exec N E cb inl c st K=some y→(∀ e st' gh' a' w',Inv r f st'→Rel C st' gh' a' w'→K e st'=some y→Q (ofEx e) a' w')→c.wp C.P Q a w
 | .skip,st,gh,a,w,K,Q,hI,h,hs,hK=>wp_skip (hK .normal st gh a w hI h hs)
 | .seq x z,st,gh,a,w,K,Q,hI,h,hs,hK=>by
  simp only[exec] at hs
  split at hs
  ·refine wp_seq (z54 hE hcb hinl x hI h hs fun e st' gh' a' w' hI' h' hk=>?_)
   cases e with
   | normal=>exact z54 hE hcb hinl z hI' h' hk hK
   | exit id=>exact hK (.exit id) st' gh' a' w' hI' h' hk
   | ret=>exact hK .ret st' gh' a' w' hI' h' hk
  ·rename_i live ps hlive
   split at hs
   ·cases hs
   rename_i st1 hps
   obtain⟨gh1,h,q1,q2,q3⟩:=z7f ps h (by rw[hI.fx]; exact hI.fl) hps
   replace hI:Inv r f st1:=⟨q1.trans hI.ro,q2.trans hI.fx,by have:=hI.rl; omega,by have:=hI.fl; omega⟩
   have hfl:st1.fx≤st1.objs.length:=by rw[hI.fx]; exact hI.fl
   unfold cutN at hs
   refine wp_seq (z54 hE hcb hinl x hI h hs fun e st' gh' a' w' hI' h' hk=>?_)
   cases e with
   | normal=>
    simp only at hk
    split at hk
    ·cases hk
    rename_i st2 hst2
    obtain⟨g2,h2,f1,f2,f3⟩:=z59 ps h' hst2
    split at hk
    ·rename_i x hx
     split at hk
     ·rename_i u hz
      have hI1:Inv r f (zf4 live st1 (x,u)):=⟨hI.ro,hI.fx,by simp only[zf4,z3f]; exact hI.rl,by simp only[zf4,z3f]; exact hI.fl⟩
      exact z54 hE hcb hinl z hI1 (zt4 h h2 hfl (f1.trans (hI'.ro.trans hI.ro.symm)) (f2.trans (hI'.fx.trans hI.fx.symm)) hx hz) hk hK
     ·cases hk
    ·cases hk
   | exit id=>exact hK (.exit id) st' gh' a' w' hI' h' hk
   | ret=>exact hK .ret st' gh' a' w' hI' h' hk
 | .region id ops draw,st,gh,a,w,K,Q,hI,h,hs,hK=>by
  simp only[exec] at hs
  cases draw with
  | false=>
   simp only[Bool.false_eq_true,if_false] at hs
   refine wp_region ?_
   have:=z72 hE hcb hinl (K:=fun st'=>K .normal st') (Q:=Q) (fun st' gh' a' w' hI' h' hk=>hK .normal st' gh' a' w' hI' h' hk) ops.toList 0 st gh a w (by simp) hI h hs
   rwa [Array.length_toList,←List.range_eq_range'] at this
  | true=>
   simp only[if_true] at hs
   split at hs
   ·exact zse hE hcb (K:=fun st'=>K .normal st') hI h hs fun st' gh' a' w' hI' h' hk=>hK .normal st' gh' a' w' hI' h' hk
   ·rename_i htl
    exact y1g hE hcb hinl hI h htl hs fun st' gh' a' w' hI' h' hk=>hK .normal st' gh' a' w' hI' h' hk
 | .cond c x z,st,gh,a,w,K,Q,hI,h,hs,hK=>by
  simp only[exec] at hs
  split at hs
  ·rename_i b L hc
   have hv:=h.leaf c
   rw[hc] at hv
   refine wp_cond (zc4 hv) ?_
   cases b with
   | true=>exact z54 hE hcb hinl x hI h hs hK
   | false=>exact z54 hE hcb hinl z hI h hs hK
  ·cases hs
 | .block id (.loop body),st,gh,a,w,K,Q,hI,h,hs,hK=>by
  simp only[exec] at hs
  split at hs
  ·cases hs
  rename_i live ps hlive
  split at hs
  ·cases hs
  rename_i st1 hps
  obtain⟨gh1,h,q1,q2,q3⟩:=z7f ps h (by rw[hI.fx]; exact hI.fl) hps
  replace hI:Inv r f st1:=⟨q1.trans hI.ro,q2.trans hI.fx,by have:=hI.rl; omega,by have:=hI.fl; omega⟩
  refine wp_block ?_
  let R:Nat→Act→World→Prop:=fun n a w=>∃ d gh,Rel C (zf4 live st1 d) gh a w∧z0i n (fun rec (d:zgl (z0x live 0 st1.regs++st1.frm)×z5r st1.objs)=>
     exec N E cb inl body (zf4 live st1 d) fun e st'=>match e with
      | .normal=>match z92 ps st' with
       | none=>none
       | some st'=>match z1z st1.objs.length (z0x live 0 st1.regs++st1.frm) (z0x live 0 st'.regs++st'.frm) with
        | some x=>match z0w st1.objs.length st1.objs st'.objs with
         | some y=>rec (x,y)
         | none=>none
        | none=>none
      | .exit j=>if j==id then K .normal st' else K (.exit j) st'
      | .ret=>K .ret st') d=some y
  have hfl:st1.fx≤st1.objs.length:=by rw[hI.fx]; exact hI.fl
  refine zvu R (fun a w hR=>?_) (fun n a w hR=>?_) N a w ⟨(za1 _,z9z _),_,zt4 h h hfl rfl rfl (z10 _ _) (z86 _ _),hs⟩
  ·obtain⟨d,gh,_,hn⟩:=hR
   simp[z0i] at hn
  ·obtain⟨d,gh1,hrel,hn⟩:=hR
   simp only[z0i] at hn
   have hI1:Inv r f (zf4 live st1 d):=⟨hI.ro,hI.fx,by simp only[zf4,z3f]; exact hI.rl,by simp only[zf4,z3f]; exact hI.fl⟩
   refine z54 hE hcb hinl body hI1 hrel hn fun e st' gh' a' w' hI' h' hk=>?_
   cases e with
   | normal=>
    simp only at hk
    split at hk
    ·cases hk
    rename_i st2 hst2
    obtain⟨g2,h2,f1,f2,f3⟩:=z59 ps h' hst2
    split at hk
    ·rename_i x hx
     split at hk
     ·rename_i z hz
      exact⟨(x,z),_,zt4 h h2 hfl (f1.trans (hI'.ro.trans hI.ro.symm)) (f2.trans (hI'.fx.trans hI.fx.symm)) hx hz,hk⟩
     ·cases hk
    ·cases hk
   | exit j=>
    simp only[beq_iff_eq] at hk
    show Exit.then _ _ (.exit j) a' w'
    simp only[Exit.then,Exit.inBlock]
    split at hk
    ·rename_i hj
     rw[if_pos hj]
     exact hK .normal st' gh' a' w' hI' h' hk
    ·rename_i hj
     rw[if_neg hj]
     exact hK (.exit j) st' gh' a' w' hI' h' hk
   | ret=>exact hK .ret st' gh' a' w' hI' h' hk
 | .exit id,st,gh,a,w,K,Q,hI,h,hs,hK=>wp_exit (hK (.exit id) st gh a w hI h hs)
 | .ret,st,gh,a,w,K,Q,hI,h,hs,hK=>wp_ret (hK .ret st gh a w hI h hs)
 | .block id .skip,st,gh,a,w,K,Q,hI,h,hs,hK=>by
  simp only[exec] at hs
  exact wp_block (wp_skip (hK .normal st gh a w hI h hs))
 | .block id (.region i ops draw),st,gh,a,w,K,Q,hI,h,hs,hK=>wp_block (z54 (N:=N) hE hcb hinl (.region i ops draw) hI h (K:=blkK id K) hs (blockK hK))
 | .block id (.seq x z),st,gh,a,w,K,Q,hI,h,hs,hK=>wp_block (z54 (N:=N) hE hcb hinl (.seq x z) hI h (K:=blkK id K) hs (blockK hK))
 | .block id (.cond c x z),st,gh,a,w,K,Q,hI,h,hs,hK=>wp_block (z54 (N:=N) hE hcb hinl (.cond c x z) hI h (K:=blkK id K) hs (blockK hK))
 | .block id (.block i x),st,gh,a,w,K,Q,hI,h,hs,hK=>wp_block (z54 (N:=N) hE hcb hinl (.block i x) hI h (K:=blkK id K) hs (blockK hK))
 | .block id (.exit i),st,gh,a,w,K,Q,hI,h,hs,hK=>wp_block (z54 (N:=N) hE hcb hinl (.exit i) hI h (K:=blkK id K) hs (blockK hK))
 | .block id .ret,st,gh,a,w,K,Q,hI,h,hs,hK=>wp_block (z54 (N:=N) hE hcb hinl .ret hI h (K:=blkK id K) hs (blockK hK))
 | .block id (.rangeFunc _ _ _ _),st,gh,a,w,K,Q,hI,h,hs,hK=>by simp[exec] at hs
 | .block id (.scope _),st,gh,a,w,K,Q,hI,h,hs,hK=>by simp[exec] at hs
 | .block id (.label _),st,gh,a,w,K,Q,hI,h,hs,hK=>by simp[exec] at hs
 | .block id (.goto _),st,gh,a,w,K,Q,hI,h,hs,hK=>by simp[exec] at hs
 | .block id (.refuse _),st,gh,a,w,K,Q,hI,h,hs,hK=>by simp[exec] at hs
 | .loop _,st,gh,a,w,K,Q,hI,h,hs,hK=>by simp[exec] at hs
 | .rangeFunc _ _ _ _,st,gh,a,w,K,Q,hI,h,hs,hK=>by simp[exec] at hs
 | .scope _,st,gh,a,w,K,Q,hI,h,hs,hK=>by simp[exec] at hs
 | .label _,st,gh,a,w,K,Q,hI,h,hs,hK=>by simp[exec] at hs
 | .goto _,st,gh,a,w,K,Q,hI,h,hs,hK=>by simp[exec] at hs
 | .refuse _,st,gh,a,w,K,Q,hI,h,hs,hK=>by simp[exec] at hs
where
 blockK {C:Ctx} {r f:Nat} {ρ:Type} {y:ρ} {id:Nat} {K:Ex→St→Option ρ} {Q:Exit→Act→World→Prop} (hK:∀ e st' gh' a' w',Inv r f st'→Rel C st' gh' a' w'→K e st'=some y→Q (ofEx e) a' w'):
   ∀ e st' gh' a' w',Inv r f st'→Rel C st' gh' a' w'→blkK id K e st'=some y→Exit.inBlock id Q (ofEx e) a' w':=by
  intro e st' gh' a' w' hI' h' hk
  cases e with
  | normal=>exact hK .normal st' gh' a' w' hI' h' hk
  | ret=>exact hK .ret st' gh' a' w' hI' h' hk
  | exit j=>
   simp only[blkK,beq_iff_eq] at hk
   show Exit.inBlock id Q (.exit j) a' w'
   simp only[Exit.inBlock]
   split at hk
   ·rename_i hj
    rw[if_pos hj]
    exact hK .normal st' gh' a' w' hI' h' hk
   ·rename_i hj
    rw[if_neg hj]
    exact hK (.exit j) st' gh' a' w' hI' h' hk
end
end Go.AM
