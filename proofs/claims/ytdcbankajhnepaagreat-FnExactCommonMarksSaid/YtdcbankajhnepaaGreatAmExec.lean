/- Code. No condition. -/
import Derived.Test.YtdcbankajhnepaaGreatAmNil
set_option linter.unusedVariables false
set_option linter.unusedSimpArgs false
namespace Go.AM
def ofEx:Ex → Exit
 | .normal=>.normal
 | .exit id=>.exit id
 | .ret=>.ret
section
variable {C:Ctx} {st:St} {gh:Gh} {a:Act} {w:World}
theorem wp_loop_n {P:Program} {c:Code} {Q:Exit → Act → World → Prop} (R:Nat → Act → World → Prop) (zero:∀ a w,¬ R 0 a w) (round:∀ n a w,R (n + 1) a w → c.wp P (Exit.then (R n) Q) a w):
  ∀ n a w,R n a w → (Code.loop c).wp P Q a w:=by
 intro n a w hR b k cs
 have key:∀ n a w,R n a w → ∃ e a' w',Q e a' w' ∧ Arrives P (lone (b.at a (.code c :: .inLoop c :: k)) cs w) b k cs e a' w':=by
  intro n
  induction n with
  | zero=>intro a w h; exact absurd h (zero a w)
  | succ n ih=>
   intro a w h
   obtain ⟨e,a₁,w₁,hq,harr⟩:=round n a w h b (.inLoop c :: k) cs
   cases e with
   | normal=>
    obtain ⟨e₂,a₂,w₂,hq₂,harr₂⟩:=ih a₁ w₁ hq
    exact ⟨e₂,a₂,w₂,hq₂,.of_steps (Steps.trans harr (.one step_inLoop)) harr₂⟩
   | exit id=>exact ⟨_,a₁,w₁,hq,.pass (x:=.inLoop c) rfl (fun _ _=>.inl (by simp)) harr⟩
   | goto l=>exact ⟨_,a₁,w₁,hq,.pass (x:=.inLoop c) rfl (fun _ _=>.inl (by simp)) harr⟩
   | ret=>exact ⟨_,a₁,w₁,hq,.pass (x:=.inLoop c) rfl (fun _ _=>.inl (by simp)) harr⟩
   | panic ch=>exact ⟨_,a₁,w₁,hq,.pass (x:=.inLoop c) rfl (fun _ _=>.inl (by simp)) harr⟩
   | outgrown=>exact ⟨_,a₁,w₁,hq,.pass (x:=.inLoop c) rfl (fun _ _=>.inl (by simp)) harr⟩
 obtain ⟨e,a',w',hq,harr⟩:=key n a w hR
 exact ⟨e,a',w',hq,.of_steps (.one step_loop) harr⟩
def blkK {ρ:Type} (id:Nat) (K:Ex → St → Option ρ):Ex → St → Option ρ:=fun e st'=>match e with
 | .exit j=>if j == id then K .normal st' else K (.exit j) st'
 | e=>K e st'
def InlOk (P:Program) (Γ:Facts) (inl:INL):Prop:=∀ (C:Ctx) (st:St) (gh:Gh) (a:Act) (w:World) (r f:Nat) (ρ:Type) (y:ρ) (K:SV → St → Option ρ) (g:FuncId) (caps:List (Nat × Nat)) (args:List SV) (vals:List Value),
 C.P = P → C.Γ = Γ → Inv r f st → Rel C st gh a w → (∀ p ∈ caps,∃ cs,obj st.objs p.1 = .box cs) → All2 (SVOk (LeafOk C w gh st.objs)) args vals → inl ρ g caps args st K = some y →
 Enters P g ∧ Calls P g (vals.toArray ++ capsV gh caps) w fun e w'=>∃ v sv st' gh',e = .returned v ∧ Inv r f st' ∧ Rel C st' gh' a w' ∧ SVOk (LeafOk C w' gh' st'.objs) sv v ∧ K sv st' = some y
theorem noInl_ok (P:Program) (Γ:Facts):InlOk P Γ noInl:=fun _ _ _ _ _ _ _ _ _ _ _ _ _ _ _ _ _ _ _ _ h=>by cases h
theorem isInl_some {E:Env} {o:Oper} {g:FuncId} {caps:List (Nat × Nat)} {args:List SV} (h:isInl E st o = some (g,caps,args)):
  ∃ c f,o.op = .call c ∧ c.callee = .value f ∧ (st.ev f).leaf = .fn g caps ∧ args = c.args.toList.map st.ev:=by
 unfold isInl at h
 split at h
 ·rename_i c hc
  split at h
  ·rename_i f hf
   split at h
   ·rename_i g' caps' hl
    split at h
    ·simp only [Option.some.injEq,Prod.mk.injEq] at h
     obtain ⟨rfl,rfl,rfl⟩:=h
     exact ⟨c,f,hc,hf,hl,rfl⟩
    ·cases h
   ·cases h
  ·cases h
 ·cases h
theorem Inv.realloc {r f:Nat} {st st':St} {E:Env} {o:Oper} (h:Inv r f st) (hs:reAlloc E st o = some st'):Inv r f st':=by
 unfold reAlloc at hs
 split at hs
 case h_2=>cases hs
 split at hs
 case h_2=>cases hs
 split at hs
 case h_2=>cases hs
 split at hs
 case h_2=>cases hs
 split at hs
 case isFalse=>cases hs
 split at hs
 case h_2=>cases hs
 rename_i hk
 simp only [Option.some.injEq] at hs
 subst hs
 obtain ⟨k1,k2,k3,_⟩:=kill_same hk
 have:=h.rl; have:=h.fl
 exact ⟨k1.trans h.ro,k2.trans h.fx,by simp only [St.put,List.length_set]; omega,by simp only [St.put,List.length_set]; omega⟩
theorem runOpsI_ok {ρ:Type} {E:Env} (hE:EnvOk C.P C.Γ E) {cb:CB} (hcb:CBOk C.P C.Γ cb) {inl:INL} (hinl:InlOk C.P C.Γ inl) {r f:Nat} {ops:Array Oper} {y:ρ} {K:St → Option ρ} {Q:Exit → Act → World → Prop}
  (hK:∀ st' gh' a' w',Inv r f st' → Rel C st' gh' a' w' → K st' = some y → Q .normal a' w'):∀ (rest:List Oper) (i:Nat) (st:St) (gh:Gh) (a:Act) (w:World),ops.toList.drop i = rest → Inv r f st → Rel C st gh a w → runOpsI E cb inl ops.toList i rest st K = some y →
   wpOps C.P ops Q (List.range' i rest.length) a w
 | [],i,st,gh,a,w,_,hI,h,hs=>hK st gh a w hI h hs
 | o :: rest,i,st,gh,a,w,hd,hI,h,hs=>by
  have hoi:ops[i]? = some o:=by
   have:(ops.toList.drop i)[0]? = some o:=by rw [hd]; rfl
   rw [List.getElem?_drop] at this
   simpa using this
  have hd':ops.toList.drop (i + 1) = rest:=by rw [← List.tail_drop,hd]; rfl
  simp only [runOpsI] at hs
  simp only [List.length_cons,List.range'_succ,wpOps,hoi]
  split at hs
  ·rename_i hg
   rw [if_pos (guard_ok h hg)]
   left
   split at hs
   ·rename_i g caps args hin
    obtain ⟨c,fo,ho,hc,hf,rfl⟩:=isInl_some hin
    have hfv:=h.leaf fo
    rw [hf] at hfv
    obtain ⟨hen,hcalls⟩:=hinl C st gh a w r f ρ y _ g caps _ _ rfl rfl hI h hfv.1.2 (evs_ok h c.args.toList) hs
    have hval:a.eval fo = .func (.func g) #[] (capsV gh caps):=hfv.1.1
    unfold Oper.wp
    rw [run_call h ho hc hval hen]
    simp only [Oper.upon]
    refine hcalls.mono ?_
    rintro e w' ⟨v,sv,st',gh',rfl,hI',h',hv,hk⟩
    exact runOpsI_ok hE hcb hinl hK rest (i + 1) (st'.put o.dst sv) gh' _ w' hd' ⟨hI'.ro,hI'.fx,hI'.rl,hI'.fl⟩ (h'.put hv) hk
   ·split at hs
    ·rename_i st1 hre
     exact ok_realloc hE h hre fun gh' a' w' hr=>runOpsI_ok hE hcb hinl hK rest (i + 1) st1 gh' a' w' hd' (hI.realloc hre) hr hs
    have nx:∀ b:Bool,(execOp a.eval o).run C.P w = .ok (.value (.bool b)) w → runOpsI E cb inl ops.toList (i + 1) rest (st.put o.dst (vbool b)) K = some y →
      o.wp C.P a w (fun a' w'=>wpOps C.P ops Q (List.range' (i + 1) rest.length) a' w') Q:=fun b hr hs=>
     wp_val hr (runOpsI_ok hE hcb hinl hK rest (i + 1) (st.put o.dst (vbool b)) gh _ w hd' ⟨hI.ro,hI.fx,hI.rl,hI.fl⟩ (h.put (val_flat (t:=.bool) rfl rfl)) hs)
    split at hs
    ·rename_i neg hnil
     obtain ⟨b,hr,hb⟩:=ok_nilCmp hE h hnil
     subst hb
     exact nx _ hr hs
    ·rename_i neg emp hnil
     obtain ⟨b,hr,hb⟩:=ok_nilCmp hE h hnil
     cases emp with
     | false=>
      simp only [Bool.false_eq_true,if_false] at hs
      have hb:b = neg:=hb
      subst hb
      exact nx _ hr hs
     | true=>
      simp only [if_true] at hs
      obtain ⟨s1,s2⟩:=bothO_some hs
      cases b with
      | true=>exact nx _ hr s1
      | false=>exact nx _ hr s2
    obtain ⟨⟨st1,c⟩,h1,h2⟩:=Tree.run_some _ hs
    rw [split_eq] at h2
    exact step_ok hE hcb h (by rw [hI.fx]; exact hI.fl) (by rw [hI.ro]; exact hI.rl) h1 fun gh' a' w' hr=>runOpsI_ok hE hcb hinl hK rest (i + 1) st1 gh' a' w' hd' (hI.step h1) hr h2
  ·rename_i hg
   rw [if_neg (by rw [guard_ok h hg]; simp)]
   exact runOpsI_ok hE hcb hinl hK rest (i + 1) (st.put o.dst (.one .skip)) gh _ w hd' ⟨hI.ro,hI.fx,hI.rl,hI.fl⟩ (skip_ok h o.dst) hs
  ·cases hs
theorem exec_ok {ρ:Type} {N:Nat} {E:Env} (hE:EnvOk C.P C.Γ E) {cb:CB} (hcb:CBOk C.P C.Γ cb) {inl:INL} (hinl:InlOk C.P C.Γ inl) {r f:Nat} {y:ρ}:∀ (c:Code) {st:St} {gh:Gh} {a:Act} {w:World} {K:Ex → St → Option ρ} {Q:Exit → Act → World → Prop},
  Inv r f st → Rel C st gh a w → exec N E cb inl c st K = some y → (∀ e st' gh' a' w',Inv r f st' → Rel C st' gh' a' w' → K e st' = some y → Q (ofEx e) a' w') → c.wp C.P Q a w
 | .skip,st,gh,a,w,K,Q,hI,h,hs,hK=>wp_skip (hK .normal st gh a w hI h hs)
 | .seq x z,st,gh,a,w,K,Q,hI,h,hs,hK=>by
  simp only [exec] at hs
  split at hs
  ·refine wp_seq (exec_ok hE hcb hinl x hI h hs fun e st' gh' a' w' hI' h' hk=>?_)
   cases e with
   | normal=>exact exec_ok hE hcb hinl z hI' h' hk hK
   | exit id=>exact hK (.exit id) st' gh' a' w' hI' h' hk
   | ret=>exact hK .ret st' gh' a' w' hI' h' hk
  ·rename_i live ps hlive
   split at hs
   ·cases hs
   rename_i st1 hps
   obtain ⟨gh1,h,q1,q2,q3⟩:=promo_ok ps h (by rw [hI.fx]; exact hI.fl) hps
   replace hI:Inv r f st1:=⟨q1.trans hI.ro,q2.trans hI.fx,by have:=hI.rl; omega,by have:=hI.fl; omega⟩
   have hfl:st1.fx ≤ st1.objs.length:=by rw [hI.fx]; exact hI.fl
   unfold cutN at hs
   refine wp_seq (exec_ok hE hcb hinl x hI h hs fun e st' gh' a' w' hI' h' hk=>?_)
   cases e with
   | normal=>
    simp only at hk
    split at hk
    ·cases hk
    rename_i st2 hst2
    obtain ⟨g2,h2,f1,f2,f3⟩:=frzAll_ok ps h' hst2
    split at hk
    ·rename_i x hx
     split at hk
     ·rename_i u hz
      have hI1:Inv r f (headSt live st1 (x,u)):=⟨hI.ro,hI.fx,by simp only [headSt,objsPut_len]; exact hI.rl,by simp only [headSt,objsPut_len]; exact hI.fl⟩
      exact exec_ok hE hcb hinl z hI1 (head_ok h h2 hfl (f1.trans (hI'.ro.trans hI.ro.symm)) (f2.trans (hI'.fx.trans hI.fx.symm)) hx hz) hk hK
     ·cases hk
    ·cases hk
   | exit id=>exact hK (.exit id) st' gh' a' w' hI' h' hk
   | ret=>exact hK .ret st' gh' a' w' hI' h' hk
 | .region id ops draw,st,gh,a,w,K,Q,hI,h,hs,hK=>by
  simp only [exec] at hs
  cases draw with
  | false=>
   simp only [Bool.false_eq_true,if_false] at hs
   refine wp_region ?_
   have:=runOpsI_ok hE hcb hinl (K:=fun st'=>K .normal st') (Q:=Q) (fun st' gh' a' w' hI' h' hk=>hK .normal st' gh' a' w' hI' h' hk) ops.toList 0 st gh a w (by simp) hI h hs
   rwa [Array.length_toList,← List.range_eq_range'] at this
  | true=>
   simp only [if_true] at hs
   exact runDraw_ok hE hcb (K:=fun st'=>K .normal st') hI h hs fun st' gh' a' w' hI' h' hk=>hK .normal st' gh' a' w' hI' h' hk
 | .cond c x z,st,gh,a,w,K,Q,hI,h,hs,hK=>by
  simp only [exec] at hs
  split at hs
  ·rename_i b L hc
   have hv:=h.leaf c
   rw [hc] at hv
   refine wp_cond (leaf_bool hv) ?_
   cases b with
   | true=>exact exec_ok hE hcb hinl x hI h hs hK
   | false=>exact exec_ok hE hcb hinl z hI h hs hK
  ·cases hs
 | .block id (.loop body),st,gh,a,w,K,Q,hI,h,hs,hK=>by
  simp only [exec] at hs
  split at hs
  ·cases hs
  rename_i live ps hlive
  split at hs
  ·cases hs
  rename_i st1 hps
  obtain ⟨gh1,h,q1,q2,q3⟩:=promo_ok ps h (by rw [hI.fx]; exact hI.fl) hps
  replace hI:Inv r f st1:=⟨q1.trans hI.ro,q2.trans hI.fx,by have:=hI.rl; omega,by have:=hI.fl; omega⟩
  refine wp_block ?_
  let R:Nat → Act → World → Prop:=fun n a w=>∃ d gh,Rel C (headSt live st1 d) gh a w ∧ loopN n (fun rec (d:lsDen (keepFrom live 0 st1.regs ++ st1.frm) × objsDen st1.objs)=>
     exec N E cb inl body (headSt live st1 d) fun e st'=>match e with
      | .normal=>match frzAll ps st' with
       | none=>none
       | some st'=>match lsExt st1.objs.length (keepFrom live 0 st1.regs ++ st1.frm) (keepFrom live 0 st'.regs ++ st'.frm) with
        | some x=>match objsExt st1.objs.length st1.objs st'.objs with
         | some y=>rec (x,y)
         | none=>none
        | none=>none
      | .exit j=>if j == id then K .normal st' else K (.exit j) st'
      | .ret=>K .ret st') d = some y
  have hfl:st1.fx ≤ st1.objs.length:=by rw [hI.fx]; exact hI.fl
  refine wp_loop_n R (fun a w hR=>?_) (fun n a w hR=>?_) N a w ⟨(lsGet _,objsGet _),_,head_ok h h hfl rfl rfl (lsExt_self _ _) (objsExt_self _ _),hs⟩
  ·obtain ⟨d,gh,_,hn⟩:=hR
   simp [loopN] at hn
  ·obtain ⟨d,gh1,hrel,hn⟩:=hR
   simp only [loopN] at hn
   have hI1:Inv r f (headSt live st1 d):=⟨hI.ro,hI.fx,by simp only [headSt,objsPut_len]; exact hI.rl,by simp only [headSt,objsPut_len]; exact hI.fl⟩
   refine exec_ok hE hcb hinl body hI1 hrel hn fun e st' gh' a' w' hI' h' hk=>?_
   cases e with
   | normal=>
    simp only at hk
    split at hk
    ·cases hk
    rename_i st2 hst2
    obtain ⟨g2,h2,f1,f2,f3⟩:=frzAll_ok ps h' hst2
    split at hk
    ·rename_i x hx
     split at hk
     ·rename_i z hz
      exact ⟨(x,z),_,head_ok h h2 hfl (f1.trans (hI'.ro.trans hI.ro.symm)) (f2.trans (hI'.fx.trans hI.fx.symm)) hx hz,hk⟩
     ·cases hk
    ·cases hk
   | exit j=>
    simp only [beq_iff_eq] at hk
    show Exit.then _ _ (.exit j) a' w'
    simp only [Exit.then,Exit.inBlock]
    split at hk
    ·rename_i hj
     rw [if_pos hj]
     exact hK .normal st' gh' a' w' hI' h' hk
    ·rename_i hj
     rw [if_neg hj]
     exact hK (.exit j) st' gh' a' w' hI' h' hk
   | ret=>exact hK .ret st' gh' a' w' hI' h' hk
 | .exit id,st,gh,a,w,K,Q,hI,h,hs,hK=>wp_exit (hK (.exit id) st gh a w hI h hs)
 | .ret,st,gh,a,w,K,Q,hI,h,hs,hK=>wp_ret (hK .ret st gh a w hI h hs)
 | .block id .skip,st,gh,a,w,K,Q,hI,h,hs,hK=>by
  simp only [exec] at hs
  exact wp_block (wp_skip (hK .normal st gh a w hI h hs))
 | .block id (.region i ops draw),st,gh,a,w,K,Q,hI,h,hs,hK=>wp_block (exec_ok (N:=N) hE hcb hinl (.region i ops draw) hI h (K:=blkK id K) hs (blockK hK))
 | .block id (.seq x z),st,gh,a,w,K,Q,hI,h,hs,hK=>wp_block (exec_ok (N:=N) hE hcb hinl (.seq x z) hI h (K:=blkK id K) hs (blockK hK))
 | .block id (.cond c x z),st,gh,a,w,K,Q,hI,h,hs,hK=>wp_block (exec_ok (N:=N) hE hcb hinl (.cond c x z) hI h (K:=blkK id K) hs (blockK hK))
 | .block id (.block i x),st,gh,a,w,K,Q,hI,h,hs,hK=>wp_block (exec_ok (N:=N) hE hcb hinl (.block i x) hI h (K:=blkK id K) hs (blockK hK))
 | .block id (.exit i),st,gh,a,w,K,Q,hI,h,hs,hK=>wp_block (exec_ok (N:=N) hE hcb hinl (.exit i) hI h (K:=blkK id K) hs (blockK hK))
 | .block id .ret,st,gh,a,w,K,Q,hI,h,hs,hK=>wp_block (exec_ok (N:=N) hE hcb hinl .ret hI h (K:=blkK id K) hs (blockK hK))
 | .block id (.rangeFunc _ _ _ _),st,gh,a,w,K,Q,hI,h,hs,hK=>by simp [exec] at hs
 | .block id (.scope _),st,gh,a,w,K,Q,hI,h,hs,hK=>by simp [exec] at hs
 | .block id (.label _),st,gh,a,w,K,Q,hI,h,hs,hK=>by simp [exec] at hs
 | .block id (.goto _),st,gh,a,w,K,Q,hI,h,hs,hK=>by simp [exec] at hs
 | .block id (.refuse _),st,gh,a,w,K,Q,hI,h,hs,hK=>by simp [exec] at hs
 | .loop _,st,gh,a,w,K,Q,hI,h,hs,hK=>by simp [exec] at hs
 | .rangeFunc _ _ _ _,st,gh,a,w,K,Q,hI,h,hs,hK=>by simp [exec] at hs
 | .scope _,st,gh,a,w,K,Q,hI,h,hs,hK=>by simp [exec] at hs
 | .label _,st,gh,a,w,K,Q,hI,h,hs,hK=>by simp [exec] at hs
 | .goto _,st,gh,a,w,K,Q,hI,h,hs,hK=>by simp [exec] at hs
 | .refuse _,st,gh,a,w,K,Q,hI,h,hs,hK=>by simp [exec] at hs
where
 blockK {C:Ctx} {r f:Nat} {ρ:Type} {y:ρ} {id:Nat} {K:Ex → St → Option ρ} {Q:Exit → Act → World → Prop} (hK:∀ e st' gh' a' w',Inv r f st' → Rel C st' gh' a' w' → K e st' = some y → Q (ofEx e) a' w'):
   ∀ e st' gh' a' w',Inv r f st' → Rel C st' gh' a' w' → blkK id K e st' = some y → Exit.inBlock id Q (ofEx e) a' w':=by
  intro e st' gh' a' w' hI' h' hk
  cases e with
  | normal=>exact hK .normal st' gh' a' w' hI' h' hk
  | ret=>exact hK .ret st' gh' a' w' hI' h' hk
  | exit j=>
   simp only [blkK,beq_iff_eq] at hk
   show Exit.inBlock id Q (.exit j) a' w'
   simp only [Exit.inBlock]
   split at hk
   ·rename_i hj
    rw [if_pos hj]
    exact hK .normal st' gh' a' w' hI' h' hk
   ·rename_i hj
    rw [if_neg hj]
    exact hK (.exit j) st' gh' a' w' hI' h' hk
end
end Go.AM
