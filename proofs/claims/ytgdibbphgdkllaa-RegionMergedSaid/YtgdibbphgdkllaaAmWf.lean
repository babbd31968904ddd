/- Part of a proof. -/
import Derived.Test.YtgdibbphgdkllaaAmDraw
import Derived.Scope
set_option linter.unusedSimpArgs false
set_option linter.unusedVariables false
section
/- Whole bodies. -/
namespace Go.Am
open Go
variable {P : Program} {V : Env} {U : Oth} {w0 : World} {W0 : Nat → Prop} {ρ ρ' : Rho} {s s' : St} {a a' : Act} {w w' : World} {av : AV}
variable {α : Type} {x : α} {A : Cuts}
def exOf:Ex→Exit
 | .normal=>.normal
 | .exit id=>.exit id
 | .ret=>.ret
theorem wp_loop_n{c:Code}{Q:Exit→Act→World→Prop}(R:Nat→Act→World→Prop)(n:Nat)(h0:R n a w)(hz:∀ a w,¬ R 0 a w)
  (round:∀ n a w,R (n+1) a w→c.wp P (Exit.then (fun a' w'=>R n a' w') Q) a w):(Code.loop c).wp P Q a w:=by
 classical
 have hex:∀ a w,(∃ n,R n a w) → ∃ n,R n a w ∧ ∀ m,R m a w→n≤m:=by
  intro a w h
  obtain⟨n,hn⟩:=h
  induction n using Nat.strongRecOn with
  | _ n ih=>
   by_cases hm:∃ m,m < n∧R m a w
   ·obtain⟨m,h1,h2⟩:=hm
    exact ih m h1 h2
   ·exact⟨n,hn,fun m h=>Nat.le_of_not_lt fun h2=>hm ⟨m,h2,h⟩⟩
 let μ:Act→World→Nat:=fun a w=>if h:∃ n,R n a w then Classical.choose (hex a w h) else 0
 have hμ:∀ a w,(∃ n,R n a w)→R (μ a w) a w ∧ ∀ m,R m a w→μ a w≤m:=by
  intro a w h
  simp only [μ,dif_pos h]
  exact Classical.choose_spec (hex a w h)
 refine wp_loop (fun a w=>∃ n,R n a w) μ ⟨n,h0⟩ fun a w h=>?_
 obtain⟨h1,h2⟩:=hμ a w h
 cases hm:μ a w with
 | zero=>rw [hm] at h1;exact absurd h1 (hz a w)
 | succ m=>
  rw [hm] at h1
  refine wp_mono (round m a w h1) fun e a' w' hq=>?_
  cases e with
  | normal=>exact⟨⟨m,hq⟩,Nat.lt_succ_of_le ((hμ a' w' ⟨m,hq⟩).2 m hq)⟩
  | _=>exact hq
theorem loopN_ok{c:Code}{Q:Exit→Act→World→Prop}{spec:Option (List (Nat×Md))}{K:Ex→St→Option α}
  (h:TysOk P V.T)
  (ih:∀ (s:St) (K:Ex→St→Option α) (ρ:Rho) (a:Act) (w:World) (Q:Exit→Act→World→Prop),Sim U V.G w0 W0 ρ s a w→aexec V A c s K=some x →
   (∀ e s' a' w' ρ',Sim U V.G w0 W0 ρ' s' a' w'→K e s'=some x→Q (exOf e) a' w')→c.wp P Q a w)
  (hQ:∀ e s' a' w' ρ',Sim U V.G w0 W0 ρ' s' a' w'→K e s'=some x→Q (exOf e) a' w') (n:Nat)
  (hs:Sim U V.G w0 W0 ρ s a w) (hl:loopN (fun R s=>aexec V A c s (kSeq (fun s=>R (cutTo V spec s)) K)) n s=some x):(Code.loop c).wp P Q a w:=by
 refine wp_loop_n (fun n a w=>∃ s ρ,Sim U V.G w0 W0 ρ s a w∧loopN (fun R s=>aexec V A c s (kSeq (fun s=>R (cutTo V spec s)) K)) n s=some x) n ⟨s,ρ,hs,hl⟩ ?_ ?_
 ·rintro a w ⟨s,ρ,_,hh⟩
  simp [loopN] at hh
 ·rintro n a w ⟨s,ρ,h1,h2⟩
  rw [loopN] at h2
  refine ih s _ ρ a w _ h1 h2 fun e s' a' w' ρ' hs' hk=>?_
  cases e with
  | normal=>
   simp only [kSeq] at hk
   obtain⟨ρ2,h3⟩:=cutTo_ok h hs' spec
   exact⟨_,ρ2,h3,hk⟩
  | exit j=>exact hQ (.exit j) s' a' w' ρ' hs' hk
  | ret=>exact hQ .ret s' a' w' ρ' hs' hk
theorem peel_ok{c:Code}{Q:Exit→Act→World→Prop}{spec:Option (List (Nat×Md))}{K:Ex→St→Option α}
  (h:TysOk P V.T)
  (ih:∀ (s:St) (K:Ex→St→Option α) (ρ:Rho) (a:Act) (w:World) (Q:Exit→Act→World→Prop),Sim U V.G w0 W0 ρ s a w→aexec V A c s K=some x →
   (∀ e s' a' w' ρ',Sim U V.G w0 W0 ρ' s' a' w'→K e s'=some x→Q (exOf e) a' w')→c.wp P Q a w)
  (hQ:∀ e s' a' w' ρ',Sim U V.G w0 W0 ρ' s' a' w'→K e s'=some x→Q (exOf e) a' w') (n:Nat)
  (hs:Sim U V.G w0 W0 ρ s a w) (hl:aexec V A c s (kSeq (fun s=>loopN (fun R s=>aexec V A c s (kSeq (fun s=>R (cutTo V spec s)) K)) n (cutTo V spec s)) K)=some x):(Code.loop c).wp P Q a w:=by
 refine wp_loop_n (fun m a w=>(m=n+1 ∧ ∃ s ρ,Sim U V.G w0 W0 ρ s a w∧aexec V A c s (kSeq (fun s=>loopN (fun R s=>aexec V A c s (kSeq (fun s=>R (cutTo V spec s)) K)) n (cutTo V spec s)) K)=some x) ∨
  ∃ s ρ,Sim U V.G w0 W0 ρ s a w∧loopN (fun R s=>aexec V A c s (kSeq (fun s=>R (cutTo V spec s)) K)) m s=some x) (n+1) (.inl ⟨rfl,s,ρ,hs,hl⟩) ?_ ?_
 ·rintro a w (⟨h0,_⟩ | ⟨s,ρ,_,hh⟩)
  ·omega
  ·simp [loopN] at hh
 ·rintro m a w (⟨h0,s,ρ,h1,h2⟩ | ⟨s,ρ,h1,h2⟩)
  ·have hmn:m=n:=by omega
   subst hmn
   refine ih s _ ρ a w _ h1 h2 fun e s' a' w' ρ' hs' hk=>?_
   cases e with
   | normal=>
    simp only [kSeq] at hk
    obtain⟨ρ2,h3⟩:=cutTo_ok h hs' spec
    exact .inr ⟨_,ρ2,h3,hk⟩
   | exit j=>exact hQ (.exit j) s' a' w' ρ' hs' hk
   | ret=>exact hQ .ret s' a' w' ρ' hs' hk
  ·rw [loopN] at h2
   refine ih s _ ρ a w _ h1 h2 fun e s' a' w' ρ' hs' hk=>?_
   cases e with
   | normal=>
    simp only [kSeq] at hk
    obtain⟨ρ2,h3⟩:=cutTo_ok h hs' spec
    exact .inr ⟨_,ρ2,h3,hk⟩
   | exit j=>exact hQ (.exit j) s' a' w' ρ' hs' hk
   | ret=>exact hQ .ret s' a' w' ρ' hs' hk
theorem caseI_some{j:Int}{Kq:Nat→Option α}:∀ (n q:Nat),caseI j Kq n q=some x → ∃ q:Nat,j=(q:Int)∧Kq q=some x
 | 0,_,h=>by simp [caseI] at h
 | n+1,q,h=>by
  rw [caseI] at h
  rcases cond_some h with ⟨hb,h⟩ | ⟨_,h⟩
  ·exact⟨q,of_decide_eq_true hb,h⟩
  ·exact caseI_some n (q+1) h
theorem casK_ok(hs:Sim U V.G w0 W0 ρ s a w){c:Option (Nat×Nat)}{K:St→Option α}(h:casK c s K=some x):∃ s',Sim U V.G w0 W0 ρ s' a w∧K s'=some x:=by
 unfold casK at h
 split at h
 ·exact⟨s,hs,h⟩
 ·rename_i t n
  split at h <;> try contradiction
  rename_i k j hj
  obtain⟨q,rfl,hq⟩:=caseI_some n 0 h
  exact⟨_,hs.keepTmp hj,hq⟩
theorem aexec_ok(hm:P.follows .mixedOrders=true)(h:TysOk P V.T)(hE:EOk P V):∀ (c:Code) (s:St) (K:Ex→St→Option α) (ρ:Rho) (a:Act) (w:World) (Q:Exit→Act→World→Prop),Sim U V.G w0 W0 ρ s a w→aexec V A c s K=some x →
  (∀ e s' a' w' ρ',Sim U V.G w0 W0 ρ' s' a' w'→K e s'=some x→Q (exOf e) a' w')→c.wp P Q a w
 | .skip,s,K,ρ,a,w,Q,hs,ha,hQ=>wp_skip (hQ .normal s a w ρ hs (by simpa [aexec] using ha))
 | .label l,s,K,ρ,a,w,Q,hs,ha,hQ=>wp_label (hQ .normal s a w ρ hs (by simpa [aexec] using ha))
 | .region id ops false,s,K,ρ,a,w,Q,hs,ha,hQ=>by
  refine wp_region ?_
  rw [aexec] at ha
  obtain⟨s,hs,ha⟩:=casK_ok hs ha
  have:=aops_ok (x:=x) (ops:=ops) h hE Q (fun s' a' w' ρ' h1 h2=>hQ .normal s' a' w' ρ' h1 h2) ops.toList 0 s ρ a w (by simp) hs ha
  simpa using this
 | .region id ops true,s,K,ρ,a,w,Q,hs,ha,hQ=>by
  refine wp_region_any hm ?_
  rw [aexec] at ha
  obtain⟨s,hs,ha⟩:=casK_ok hs ha
  exact aopsD_ok (x:=x) (ops:=ops) h hE Q (fun s' a' w' ρ' h1 h2=>hQ .normal s' a' w' ρ' h1 h2) (hs.heapEq (w':={ w with drawn:=w.drawn+1 }) rfl ⟨rfl,rfl,rfl⟩) ha
 | .seq c d,s,K,ρ,a,w,Q,hs,ha,hQ=>by
  rw [aexec] at ha
  refine wp_seq (aexec_ok hm h hE c s _ ρ a w _ hs ha fun e s' a' w' ρ' hs' hk=>?_)
  cases e with
  | normal=>
   obtain⟨ρ2,h3⟩:=cutTo_ok h hs' ((ckey d).bind A.join)
   exact aexec_ok hm h hE d _ K ρ2 a' w' Q h3 hk hQ
  | exit j=>exact hQ (.exit j) s' a' w' ρ' hs' hk
  | ret=>exact hQ .ret s' a' w' ρ' hs' hk
 | .cond o c d,s,K,ρ,a,w,Q,hs,ha,hQ=>by
  rw [aexec] at ha
  split at ha <;> try contradiction
  rename_i b hb
  have hc:=hs.ev o
  rw [hb] at hc
  have hb':a.eval o=.bool b:=by generalize a.eval o=u at hc;cases hc;rfl
  rcases cond_some ha with ⟨rfl,ha⟩ | ⟨rfl,ha⟩
  ·exact wp_cond_true hb' (aexec_ok hm h hE c s K ρ a w Q hs ha hQ)
  ·exact wp_cond_false hb' (aexec_ok hm h hE d s K ρ a w Q hs ha hQ)
 | .block id c,s,K,ρ,a,w,Q,hs,ha,hQ=>by
  rw [aexec] at ha
  refine wp_block (aexec_ok hm h hE c s _ ρ a w _ hs ha fun e s' a' w' ρ' hs' hk=>?_)
  cases e with
  | normal=>exact hQ .normal s' a' w' ρ' hs' hk
  | exit j=>
   simp only [kBlock] at hk
   show if j=id then Q .normal a' w' else Q (.exit j) a' w'
   by_cases e:j=id
   ·subst e
    rw [if_pos rfl]
    simp only [show Nat.beq j j=true by simp] at hk
    exact hQ .normal s' a' w' ρ' hs' hk
   ·rw [if_neg e]
    have e2:Nat.beq j id=false:=by rw [Bool.eq_false_iff];intro h';exact e (Nat.eq_of_beq_eq_true h')
    simp only [e2] at hk
    exact hQ (.exit j) s' a' w' ρ' hs' hk
  | ret=>exact hQ .ret s' a' w' ρ' hs' hk
 | .loop c,s,K,ρ,a,w,Q,hs,ha,hQ=>by
  rw [aexec] at ha
  split at ha
  ·exact peel_ok h (fun s K ρ a w Q=>aexec_ok hm h hE c s K ρ a w Q) hQ A.F hs ha
  ·obtain⟨ρ2,h3⟩:=cutTo_ok h hs ((ckey c).bind A.at_)
   exact loopN_ok h (fun s K ρ a w Q=>aexec_ok hm h hE c s K ρ a w Q) hQ A.F h3 ha
 | .scope c,s,K,ρ,a,w,Q,hs,ha,hQ=>by
  rw [aexec] at ha
  refine wp_scope_straight (aexec_ok hm h hE c s K ρ a w _ hs ha fun e s' a' w' ρ' hs' hk=>?_)
  have:=hQ e s' a' w' ρ' hs' hk
  cases e <;> exact this
 | .exit id,s,K,ρ,a,w,Q,hs,ha,hQ=>wp_exit (hQ (.exit id) s a w ρ hs (by simpa [aexec] using ha))
 | .ret,s,K,ρ,a,w,Q,hs,ha,hQ=>wp_ret (hQ .ret s a w ρ hs (by simpa [aexec] using ha))
 | .goto _,s,K,ρ,a,w,Q,hs,ha,hQ=>by simp [aexec] at ha
 | .rangeFunc _ _ _ _,s,K,ρ,a,w,Q,hs,ha,hQ=>by simp [aexec] at ha
 | .refuse _,s,K,ρ,a,w,Q,hs,ha,hQ=>by simp [aexec] at ha
end Go.Am
end
section
/- What a function's body gives, as a contract. -/
namespace Go.Am
open Go
variable {P : Program} {V : Env} {U : Oth} {w0 : World} {W0 : Nat → Prop} {ρ ρ' : Rho} {s s' : St} {a a' : Act} {w w' : World} {av : AV}
theorem aresult_ok(h:TysOk P V.T)(hs:Sim U V.G w0 W0 ρ s a w){r:ResultVar}(hr:aresult V s r=some av):
  ∃ v,(match r with | .tmp t=>pure (a.tmps.getD t Go.undef) | .cell x t=>do loadVar t (← asAddr (a.tmps.getD x Go.undef)):Sem Value).run P w=.ok v w∧Rep w (Wr U ρ s.heap) ρ av v:=by
 cases r with
 | tmp t=>
  simp only [aresult,Option.some.injEq] at hr;subst hr
  exact⟨_,rfl,hs.tm t⟩
 | cell x t=>
  simp only [aresult] at hr
  have hx:=hs.tm x
  obtain⟨v,g1,g2⟩:=aload_ok (P:=P) h hs hx hr
  refine⟨v,?_,g2⟩
  obtain⟨A,hA⟩:∃ A,a.tmps.getD x Go.undef=.pointer (some A):=by
   generalize a.tmps.getD x Go.undef=u at hx
   generalize lk x s.tmps=p at hx hr
   unfold aload at hr
   split at hr <;> try contradiction
   ·cases hx;exact⟨_,rfl⟩
   ·cases hx;exact⟨_,rfl⟩
  dsimp only
  rw [hA] at g1 ⊢
  simpa [Instr.loadAt,Instr.sureAddr,asAddr] using g1
theorem aresults_ok(h:TysOk P V.T)(hs:Sim U V.G w0 W0 ρ s a w):∀ (l:List ResultVar) (vs:List AV),aresults V s l=some vs →
  ∃ us:List Value,(l.mapM fun r=>(match r with | .tmp t=>pure (a.tmps.getD t Go.undef) | .cell x t=>do loadVar t (← asAddr (a.tmps.getD x Go.undef)):Sem Value)).run P w=.ok us w∧Reps w (Wr U ρ s.heap) ρ vs us
 | [],vs,hv=>by simp only [aresults,Option.some.injEq] at hv;subst hv;exact⟨[],rfl,trivial⟩
 | r :: l,vs,hv=>by
  simp only [aresults] at hv
  split at hv <;> try contradiction
  rename_i v vl h1 h2
  injection hv with hv;subst hv
  obtain⟨u,g1,g2⟩:=aresult_ok (P:=P) h hs h1
  obtain⟨us,g3,g4⟩:=aresults_ok h hs l vl h2
  exact⟨u :: us,by simp only [List.mapM_cons,Sem.run_bind,g1,g3,Result.andThen_ok,Sem.run_pure],g2,g4⟩
theorem ofList_len:∀ (l:List AV),(AVs.ofList l).len=l.length
 | []=>rfl
 | x :: l=>by simp [AVs.ofList,AVs.len,ofList_len l]
theorem ofList_rep{W:Nat→Prop}:∀ (l:List AV) (us:List Value),Reps w W ρ l us → ∀ j,j < l.length→Rep w W ρ ((AVs.ofList l).nth j) (us.getD j Go.undef)
 | [],_,_,j,hj=>by simp at hj
 | x :: l,[],h,_,_=>h.elim
 | x :: l,u :: us,h,0,_=>h.1
 | x :: l,u :: us,h,j+1,hj=>ofList_rep l us h.2 j (by simpa using hj)
theorem Sim.renamed(h1:Sim U V.G w0 W0 ρ s a w){roots ids:List Nat}(hg:Good roots ids s.heap)(hfix:∀ j,j < s.m→ids[j]?=some j){N M:Nat}(hM:s.m≤M):
  Sim U V.G w0 W0 (rhoN ρ ids) { tmps:=[],heap:=tagH 0 (ids.map fun n=>(lkH n s.heap).ren fun n=>numb n ids),next:=N,nt:=0,m:=M } emptyAct w ∧
  ∀ x v,Rep w (Wr U ρ s.heap) ρ x v→(∀ id∈x.ids,id∈ids)→Rep w (Wr U (rhoN ρ ids) (tagH 0 (ids.map fun n=>(lkH n s.heap).ren fun n=>numb n ids))) (rhoN ρ ids) (x.ren fun n=>numb n ids) v:=by
 have key:∀ x v,Rep w (Wr U ρ s.heap) ρ x v→(∀ id∈x.ids,id∈ids)→Rep w (Wr U (rhoN ρ ids) (tagH 0 (ids.map fun n=>(lkH n s.heap).ren fun n=>numb n ids))) (rhoN ρ ids) (x.ren fun n=>numb n ids) v:=by
  intro x v hx hid
  have h1:=hx.ren (ρ':=rhoN ρ ids) (fun n=>numb n ids) (fun id hi y hy=>by rw [rhoN_numb (hid id hi)];exact hy)
  exact h1.mono (fun _ _ _ _=>rfl) (fun b hlt hb hb'=>hb (by
   rcases hb' with hb' | hb'
   ·exact .inl hb'
   ·exact .inr (small_wrN hb'))) (fun _ _ h=>h)
 refine⟨?_,key⟩
 exact {
  tm:=fun t=>by simp only [lk];exact .undef _
  nt:=rfl
  df:=rfl
  bl:=fun j n r b hl=>by
   obtain⟨id,r0,g1,g2,g3,rfl⟩:=small_cells hl
   have hb:=h1.bl id n r0 b g3
   obtain⟨q1,q2,q3⟩:=row_renM (fun n=>numb n ids) r0 hb.wf
   refine⟨q1,q2.trans hb.size,?_,fun k kn v es e=>?_,fun t ht=>?_⟩ <;> rw [rhoN_some g1]
   rotate_left
   ·obtain⟨L,l1,l2⟩:=hb.map k kn v es (ren_rM e)
    obtain⟨ms,clock,m1,m2⟩:=l2.ex
    exact⟨L,l1,⟨⟨ms,clock,m1,m2.mono fun xs u hx=>by
     have:=key _ _ hx (fun i hi=>by rw [mval_ids] at hi;simp at hi)
     rwa [mval_ren] at this⟩,l2.keys,l2.nd,l2.bo,l2.hid.mono rfl fun c hc=>⟨rfl,rfl⟩⟩⟩
   ·exact hb.typ t (by rw [tag_ren] at ht;exact ht)
   rcases hb.lies with hb1 | ⟨L,l1,l2,l3,l4,l5⟩
   ·exact .inl hb1
   ·refine .inr ⟨L,l1,l2,fun k hk=>?_,(fun e h=>l4 e (by rwa [isM_ren] at h)),l5⟩
    obtain⟨v,e1,e2⟩:=l3 k hk
    refine⟨v,e1,?_⟩
    have q:=q3 k (by rw [hb.size];exact hk)
    rw [q.1]
    exact key _ _ e2 fun i hi=>hg.closed id g2 i (by rw [g3];exact q.2 i hi)
  sep:=fun j j' n r n' r' b' L L' h1' h2 h3 h4 h5=>by
   obtain⟨id,r0,g1,g2,g3,rfl⟩:=small_cells h1'
   obtain⟨id',r0',g1',g2',g3',rfl⟩:=small_cells h2
   rw [rhoN_some g1] at h3
   rw [rhoN_some g1'] at h4
   have e:=h1.sep id id' n r0 n' r0' b' L L' g3 g3' h3 h4 h5
   subst e
   exact(List.getElem?_inj (List.getElem?_eq_some_iff.1 g1).1 hg.nodup).1 (g1.trans g1'.symm)
  dom:=fun j hj=>by
   simp only [hasKey_tag,List.length_map]
   have:j < ids.length:=by
    rcases Nat.lt_or_ge j ids.length with h | h
    ·exact h
    ·exact absurd (by simp [rhoN,rho0,List.getElem?_eq_none h]) hj
   simp [this]
  fr:=h1.fr
  wo:=fun b hb=>h1.wo b (small_wrN hb)
  sz:=h1.sz
  gl:=h1.gl
  uo:=h1.uo
  ug:=h1.ug
  su:=fun j n r b L h1' h2=>by
   obtain⟨id,r0,g1,g2,g3,rfl⟩:=small_cells h1'
   rw [rhoN_some g1] at h2
   exact h1.su id n r0 b L g3 h2
  ini:=fun id x hx=>by
   have hlt:=h1.im id (by rw [hx];simp)
   rw [rhoN_some (hfix id hlt)]
   exact h1.ini id x hx
  im:=fun id hid=>Nat.lt_of_lt_of_le (h1.im id hid) hM
  sm:=h1.sm
  xk:=⟨h1.xk.l,fun b M j n r c L hb h1' h2=>by
   obtain⟨id,r0,g1,g2,g3,rfl⟩:=small_cells h1'
   rw [rhoN_some g1] at h2
   exact h1.xk.s b M id n r0 c L hb g3 h2,h1.xk.u⟩ }
theorem retV_rep{W:Nat→Prop}{vs:List AV}{us:List Value}(h:Reps w W ρ vs us):Rep w W ρ (retV vs) (if h:us.toArray.size=1 then us.toArray[0] else .tuple us.toArray):=by
 match vs,us,h with
 | [],[],_=>exact .tup .nil #[] rfl fun j hj=>by simp [AVs.len] at hj
 | [x],[y],g2=>exact g2.1
 | x :: x2 :: l,y :: y2 :: m,g2=>
  have hlen:=g2.length
  have e:(if h:(y :: y2 :: m).toArray.size=1 then (y :: y2 :: m).toArray[0] else Value.tuple (y :: y2 :: m).toArray)=.tuple (y :: y2 :: m).toArray:=by simp
  rw [e]
  refine .tup _ _ (by rw [ofList_len];simpa using hlen) fun j hj=>?_
  have:=ofList_rep _ _ g2 j (by rw [ofList_len] at hj;exact hj)
  simpa [Array.getD_eq_getD_getElem?,List.getD_eq_getElem?_getD] using this
theorem afin_ok(h:TysOk P V.T)(hs:Sim U V.G w0 W0 ρ s a w){fn:Func}{r:AV}{H':List Blk}(hf:afin V s.m fn.results.toList s=some (r,H')):
  ∃ v ρ',(results fn a.tmps).run P w=.ok v w∧Sim U V.G w0 W0 ρ' (hst H') emptyAct w∧Rep w (Wr U ρ' (tagH 0 H')) ρ' r v:=by
 unfold afin at hf
 split at hf <;> try contradiction
 rename_i vs hvs
 obtain⟨us,g1,g2⟩:=aresults_ok (P:=P) h hs _ vs hvs
 dsimp only at hf
 generalize hv:retV vs=v0 at hf
 generalize hroots:addNew (List.range s.m) v0.ids=roots at hf
 generalize hids:reach s.heap 64 roots roots=ids at hf
 split at hf <;> try contradiction
 rename_i hgood
 have hg:=goodIds_ok hgood
 simp only [Option.some.injEq,Prod.mk.injEq] at hf
 obtain⟨rfl,rfl⟩:=hf
 have hfix:∀ j,j < s.m→ids[j]?=some j:=by
  rw [← hids,← hroots]
  exact reach_fix
 have hM:s.m≤(ids.map fun n=>(lkH n s.heap).ren fun n=>numb n ids).length:=by
  simp only [List.length_map]
  rcases Nat.eq_zero_or_pos s.m with h0 | h0
  ·omega
  ·have:=(List.getElem?_eq_some_iff.1 (hfix (s.m-1) (by omega))).1
   omega
 obtain⟨k1,k2⟩:=hs.renamed hg hfix (N:=(ids.map fun n=>(lkH n s.heap).ren fun n=>numb n ids).length) hM
 have hrep:=retV_rep g2
 rw [hv] at hrep
 refine⟨_,_,?_,k1,k2 v0 _ hrep fun id hid=>hg.roots id (by rw [← hroots];exact mem_addNew.2 (.inr hid))⟩
 have e:∀ f:ResultVar→Sem Value,(fn.results.toList.mapM f).run P w=.ok us w→(fn.results.mapM f).run P w=.ok us.toArray w:=by
  intro f hf
  rw [Array.mapM_eq_mapM_toList,Sem.run_map,hf]
  rfl
 have e1:=e _ g1
 rw [show results fn a.tmps=(do
  let vs ← fn.results.mapM fun r=>(match r with | .tmp t=>pure (a.tmps.getD t Go.undef) | .cell x t=>do loadVar t (← asAddr (a.tmps.getD x Go.undef)):Sem Value)
  pure (if h:vs.size=1 then vs[0] else .tuple vs)) from rfl,Sem.run_bind,e1]
 rfl
theorem callOk_of_body (hm : P.follows .mixedOrders = true) (h : TysOk P V.T) (hE : EOk P V) {A : Cuts} {f : Nat} {fn : Func} {c : Code} (hf : P.funcs[f]? = some fn) (hn : (fn.name == "runtime.NumGoroutine") = false) (hb : fn.body = some c)
  {run:List AV→List Blk→Option (Bool×AV×List Blk)} (hrun:∀ X H r H',run X H=some (true,r,H')→abody V A fn X H=some (r,H')):CallOk P V.G f run where
 there:=⟨fn,hf,hn,by rw [hb];rfl⟩
 does:=by
  intro X H r H' hr U w ρ args hini hs hargs
  have ha:=hrun X H r H' hr
  unfold abody at ha
  rw [hb] at ha
  dsimp only at ha
  have hlen:=hargs.length
  refine calls_of_wp hf hb ?_
  have hs0:Sim U V.G w (WrO ρ (tagH 0 H)) ρ { tmps:=tagT 0 X,heap:=tagH 0 H,next:=H.length,nt:=max X.length fn.ntmps,m:=H.length } { tmps:=args++Array.replicate (fn.ntmps-args.size) Go.undef,defers:=[] } w:={
   tm:=fun t=>by
    have key:∀ (l:List AV) (us:List Value) (i:Nat),Reps w (Wr U ρ (tagH 0 H)) ρ l us→lk t (tagT i l)=.undef∨(i≤t∧t < i+l.length∧Rep w (Wr U ρ (tagH 0 H)) ρ (lk t (tagT i l)) (us.getD (t-i) Go.undef)):=by
     intro l
     induction l with
     | nil=>intro us i _;exact .inl rfl
     | cons y l ih=>
      intro us i hr
      cases us with
      | nil=>exact hr.elim
      | cons u us=>
       rw [tagT,lk_put]
       by_cases e:t=i
       ·subst e;simp only [if_true];exact .inr ⟨Nat.le_refl _,by simp,by simpa using hr.1⟩
       ·rw [if_neg e]
        rcases ih us (i+1) hr.2 with h | ⟨h1,h2,h3⟩
        ·exact .inl h
        ·refine .inr ⟨by omega,by simp;omega,?_⟩
         rw [show t-i=(t-(i+1))+1 by omega]
         simpa using h3
    rcases key X args.toList 0 hargs with h | ⟨_,h2,h3⟩
    ·dsimp only;rw [h];exact .undef _
    ·have hlt:t < args.size:=by rw [hlen] at h2;simpa using h2
     rw [Nat.sub_zero] at h3
     have e:(args++Array.replicate (fn.ntmps-args.size) Go.undef).getD t Go.undef=args.toList.getD t Go.undef:=by
      simp [Array.getD_eq_getD_getElem?,List.getD_eq_getElem?_getD,Array.getElem?_append,hlt]
     show Rep w (Wr U ρ (tagH 0 H)) ρ (lk t (tagT 0 X)) ((args++Array.replicate (fn.ntmps-args.size) Go.undef).getD t Go.undef)
     rw [e];exact h3
   nt:=by
    simp only [Array.size_append,Array.size_replicate]
    rw [hlen];simp only [Array.length_toList];omega
   df:=rfl
   bl:=hs.bl,sep:=hs.sep,dom:=hs.dom,fr:=hs.fr,wo:=hs.wo,sz:=hs.sz,gl:=hs.gl,uo:=hs.uo,ug:=hs.ug,su:=hs.su,ini:=hs.ini,im:=hs.im,sm:=hs.sm,xk:=hs.xk }
  refine aexec_ok hm h hE c _ _ ρ _ w _ hs0 ha ?_
  intro e s' a' w' ρ' hs' hk
  obtain⟨ρ1,hs1⟩:=cutTo_ok h hs' A.fin
  have fin:afin V (cutTo V A.fin s').m fn.results.toList (cutTo V A.fin s')=some (r,H') → ∃ v,(results fn a'.tmps).run P w'=.ok v w' ∧ ∃ v' ρ'',Ending.returned v=.returned v'∧Sim U V.G w (WrO ρ (tagH 0 H)) ρ'' (hst H') emptyAct w'∧Rep w' (Wr U ρ'' (tagH 0 H')) ρ'' r v':=by
   intro hfin
   obtain⟨v,ρ2,g1,g2,g3⟩:=afin_ok (P:=P) h hs1 hfin
   exact⟨v,g1,v,ρ2,rfl,g2,g3⟩
  cases e with
  | exit j=>simp [kFin] at hk
  | normal=>exact⟨hs'.df,fin hk⟩
  | ret=>exact⟨hs'.df,fin hk⟩
end Go.Am
end
section
/- What the values that a function is handed are known to be; a body, as a contract that may use it. -/
namespace Go.Am
open Go
variable {P : Program} {V : Env}
def okS(s:List Int):Prop:=s.length < 4611686018427387904 ∧ ∀ x∈s,0≤x∧x≤255
def okRI(k:IntKind)(xs:List Int):Prop:=∀ x∈xs,k.has x
def okC:AV→Prop
 | .int k n=>k.has n
 | .str s=>okS s
 | .vs (.rI k xs) 0 1=>okRI k xs∧xs.length < 4611686018427387904
 | _=>True
def okR(n:Nat)(r:AV):Prop:=r.wf∧r.size=n ∧ ∀ j,j < n→okC (r.cell j)
def okL:AV→Prop
 | .rI k xs=>okRI k xs∧xs.length < 4611686018427387904
 | .rS xss=>(∀ s∈xss,okS s)∧xss.length < 4611686018427387904
 | .rL k xss=>(∀ xs∈xss,okRI k xs∧xs.length < 4611686018427387904)∧xss.length < 4611686018427387904
 | .rB xs=>xs.length < 4611686018427387904
 | _=>True
def okV:AV→Prop
 | .int k n=>k.has n
 | .str s=>okS s
 | .agg n r=>okR n r
 | .vs r _ 1=>okL r
 | .vs (.rI k xs) len sz=>okRI k xs∧xs.length=len*sz∧len < 4611686018427387904
 | .vs (.rT ks xs) len sz=>xs.length*ks.length=len*sz∧len < 4611686018427387904 ∧ ∀ j,j < len*sz→okC ((AV.rT ks xs).cell j)
 | _=>True
def okB:Blk→Prop
 | .cells _ (.rM k kn v es) _=>(∀ e∈es,keyOk k kn e.1∧okV (mval v e.2))∧(es.map (·.1)).Nodup
 | .cells n r _=>okR n r
 | .gone=>True
theorem okS_of_rep{w:World}{W:Nat→Prop}{ρ:Rho}{s:List Int}{v:Value}(h:Rep w W ρ (.str s) v):okS s:=by
 cases h with
 | str s hm=>
  refine⟨?_,?_⟩
  ·unfold bytesOf;rw [List.length_map];exact hm
  ·intro x hx
   simp only [bytesOf,List.mem_map] at hx
   obtain⟨b,_,rfl⟩:=hx
   have:=b.toNat_lt
   exact⟨by omega,by omega⟩
theorem okRI_of_cells{w:World}{W:Nat→Prop}{ρ:Rho}{k:IntKind}{xs:List Int}(h:∀ j,j < xs.length → ∃ v,Rep w W ρ ((AV.rI k xs).cell j) v):okRI k xs:=by
 intro x hx
 obtain⟨j,hj,rfl⟩:=List.mem_iff_getElem.mp hx
 obtain⟨v,hv⟩:=h j hj
 simp only [AV.cell] at hv
 rw [List.getD_eq_getElem?_getD,List.getElem?_eq_getElem hj] at hv
 cases hv with
 | int _ _ h=>exact h
theorem okC_of_rep{w:World}{W:Nat→Prop}{ρ:Rho}{x:AV}{v:Value}(h:Rep w W ρ x v):okC x:=by
 unfold okC
 split
 ·cases h with | int _ _ h=>exact h
 ·exact okS_of_rep h
 ·rename_i k xs
  cases h with
  | vs0 _ _ cap a hr hn=>
   simp only [AV.size] at hn
   have:xs=[]:=List.length_eq_zero_iff.mp hn
   subst this
   exact⟨fun x hx=>by simp at hx,by decide⟩
  | vs _ _ _ l cap blk base vals hr h0 hn hp hk hcap hm hW hc h=>
   simp only [AV.size,Nat.mul_one] at hn
   refine⟨okRI_of_cells fun j hj=>⟨_,h j (by omega)⟩,by omega⟩
 ·trivial
theorem okL_of_cells{w:World}{W:Nat→Prop}{ρ:Rho}{r:AV}(hm:r.size < 4611686018427387904)(h:∀ j,j < r.size → ∃ v,Rep w W ρ (r.cell j) v):okL r:=by
 unfold okL
 split
 ·exact⟨okRI_of_cells h,hm⟩
 ·rename_i xss
  refine⟨fun s hs=>?_,hm⟩
  obtain⟨j,hj,rfl⟩:=List.mem_iff_getElem.mp hs
  obtain⟨v,hv⟩:=h j hj
  simp only [AV.cell] at hv
  rw [List.getD_eq_getElem?_getD,List.getElem?_eq_getElem hj] at hv
  exact okS_of_rep hv
 ·rename_i k xss
  refine⟨fun s hs=>?_,hm⟩
  obtain⟨j,hj,rfl⟩:=List.mem_iff_getElem.mp hs
  obtain⟨v,hv⟩:=h j hj
  simp only [AV.cell] at hv
  rw [List.getD_eq_getElem?_getD,List.getElem?_eq_getElem hj] at hv
  exact okC_of_rep hv
 ·exact hm
 ·trivial
theorem okV_of_rep{w:World}{W:Nat→Prop}{ρ:Rho}{x:AV}{v:Value}(h:Rep w W ρ x v):okV x:=by
 unfold okV
 split
 ·cases h with | int _ _ h=>exact h
 ·exact okS_of_rep h
 ·cases h with
  | agg n r cs hw hr hc h=>exact⟨hw,hr,fun j hj=>okC_of_rep (h j hj)⟩
 ·cases h with
  | vs0 _ _ cap a hr hn=>exact okL_of_cells (w:=w) (W:=W) (ρ:=ρ) (by rw [hn];decide) (fun j hj=>by rw [hn] at hj;omega)
  | vs _ _ _ l cap blk base vals hr h0 hn hp hk hcap hm hW hc h=>
   refine okL_of_cells (w:=w) (W:=W) (ρ:=ρ) (by omega) (fun j hj=>⟨_,h j (by omega)⟩)
 ·rename_i k xs len sz h1
  have hs1:sz≠1:=fun e=>h1 e
  cases h with
  | vs0 _ _ cap a hr hn hl=>
   simp only [AV.size] at hn
   have:xs=[]:=List.length_eq_zero_iff.mp hn
   subst this
   have h0:len=0:=by
    rcases hl with h | ⟨h,_⟩
    ·exact h
    ·exact absurd h hs1
   subst h0
   exact⟨fun x hx=>by simp at hx,by simp,by decide⟩
  | vs _ _ _ l cap blk base vals hr h0 hn hp hk hcap hm hW hc h=>
   simp only [AV.size] at hn
   have hlen:len=l:=by
    rcases hk with hk | ⟨e,_⟩
    ·rw [hk];unfold klen;split
     ·exact absurd rfl hs1
     ·rfl
    ·exact absurd e hs1
   refine⟨okRI_of_cells fun j hj=>⟨_,h j (by omega)⟩,by rw [hlen];exact hn,by omega⟩
 ·rename_i ks xs len sz h1
  have hs1:sz≠1:=fun e=>h1 e
  cases h with
  | vs0 _ _ cap a hr hn hl=>
   simp only [AV.size] at hn
   have h0:len=0:=by
    rcases hl with h | ⟨h,_⟩
    ·exact h
    ·exact absurd h hs1
   subst h0
   exact⟨by rw [hn,Nat.zero_mul],by decide,fun j hj=>by rw [Nat.zero_mul] at hj;omega⟩
  | vs _ _ _ l cap blk base vals hr h0 hn hp hk hcap hm hW hc h=>
   simp only [AV.size] at hn
   have hlen:len=l:=by
    rcases hk with hk | ⟨e,_⟩
    ·rw [hk];unfold klen;split
     ·exact absurd rfl hs1
     ·rfl
    ·exact absurd e hs1
   subst hlen
   exact⟨hn,by omega,fun j hj=>okC_of_rep (h j hj)⟩
 ·trivial
theorem okB_cells{n:Nat}{r:AV}{c:Bool}(hm:r.isM=false)(h:okR n r):okB (.cells n r c):=by
 cases r <;> first | exact h | (cases hm)
theorem ments_ok{w:World}{W:Nat→Prop}{ρ:Rho}{k:IntKind}{kn:Nat}{v:MV}:∀ {ms:List MapEntry} {es:List (List Int×List Int)},MEnts w W ρ k kn v ms es → ∀ e∈es,okV (mval v e.2)
 | [],[],_,e,he=>by simp at he
 | [],_ :: _,h,_,_=>h.elim
 | _ :: _,[],h,_,_=>h.elim
 | m :: ms,x :: es,h,e,he=>by
  rcases List.mem_cons.1 he with rfl | he
  ·exact okV_of_rep h.1.2
  ·exact ments_ok h.2 e he
theorem callOk_of (hm : P.follows .mixedOrders = true) (h : TysOk P V.T) (hE : EOk P V) {f : Nat} {fn : Func} {c : Code} (hf : P.funcs[f]? = some fn) (hn : (fn.name == "runtime.NumGoroutine") = false) (hb : fn.body = some c)
  {run:List AV→List Blk→Option (Bool×AV×List Blk)} (hrun:∀ X H r H',run X H=some (true,r,H')→(∀ x∈X,okV x)→(∀ b∈H,okB b) → ∃ A,abody V A fn X H=some (r,H')):CallOk P V.G f run where
 there:=⟨fn,hf,hn,by rw [hb];rfl⟩
 does:=by
  intro X H r H' hr U w ρ args hini hs hargs
  have hX:∀ x∈X,okV x:=by
   have:∀ (l:List AV) (us:List Value),Reps w (Wr U ρ (tagH 0 H)) ρ l us → ∀ x∈l,okV x:=by
    intro l
    induction l with
    | nil=>intro _ _ x hx;simp at hx
    | cons y l ih=>
     intro us hu x hx
     cases us with
     | nil=>exact hu.elim
     | cons u us=>
      rcases List.mem_cons.mp hx with rfl | hx
      ·exact okV_of_rep hu.1
      ·exact ih us hu.2 x hx
   exact this X _ hargs
  have hH:∀ b∈H,okB b:=by
   intro b hb
   obtain⟨j,hj,rfl⟩:=List.mem_iff_getElem.mp hb
   cases e:H[j] with
   | gone=>trivial
   | cells n r c=>
    have hl:lkH j (tagH 0 H)=.cells n r c:=by
     rw [lkH_tag];simp [hj,e]
    have hk:=hs.bl j n r c hl
    cases hm:r.isM with
    | true=>
     obtain⟨k,kn,v,es,rfl⟩:=isM_is hm
     obtain⟨L,l1,l2⟩:=hk.map k kn v es rfl
     obtain⟨ms,clock,m1,m2⟩:=l2.ex
     exact⟨fun x hx=>⟨l2.keys x hx,ments_ok m2 x hx⟩,l2.nd⟩
    | false=>
    refine okB_cells hm ⟨hk.wf hm,hk.size,fun i hi=>?_⟩
    rcases hk.lies with ⟨_,h0⟩ | ⟨L,_,_,h1,_⟩
    ·omega
    ·obtain⟨v,_,hv⟩:=h1 i hi
     exact okC_of_rep hv
  obtain⟨A,ha⟩:=hrun X H r H' hr hX hH
  exact(callOk_of_body hm h hE (A:=A) (run:=fun X' H'=>match abody V A fn X' H' with | some (r,H)=>some (true,r,H) | none=>none) hf hn hb (by
   intro X H r H' h
   split at h
   ·rename_i r0 H0 e;injection h with h;injection h with h1 h;injection h with h2 h3;subst h2;subst h3;exact e
   ·contradiction)).does X H r H' (by simp only [ha]) U w ρ args hini hs hargs
theorem callOk_never {f : Nat} {fn : Func} (hf : P.funcs[f]? = some fn) (hn : (fn.name == "runtime.NumGoroutine") = false) (hb : fn.body.isNone = false) : CallOk P V.G f (fun _ _ => none) where
 there:=⟨fn,hf,hn,hb⟩
 does:=by intro A H r H' h;cases h
theorem callOk_nil (hm : P.follows .mixedOrders = true) (h : TysOk P V.T) (hE : EOk P V) {f : Nat} {fn : Func} {c : Code} (hf : P.funcs[f]? = some fn) (hn : (fn.name == "runtime.NumGoroutine") = false) (hb : fn.body = some c)
  {run:List AV→List Blk→Option (Bool×AV×List Blk)} (hrun:∀ X H R H',run X H=some (true,R,H') → ∃ r,X=[.vs r 0 1]∧H=[]∧(okV (.vs r 0 1)→(∃ A,abody V A fn [.vs r 2 1] []=some (R,H'))∧(r.size=0 → ∃ A,abody V A fn [.vs r 3 1] []=some (R,H')))):CallOk P V.G f run where
 there:=⟨fn,hf,hn,by rw [hb];rfl⟩
 does:=by
  intro X H R H' hr U w ρ args hini hs hargs
  obtain⟨r,rfl,rfl,h1⟩:=hrun X H R H' hr
  have key:∀ fl,Reps w (Wr U ρ (tagH 0 [])) ρ [.vs r fl 1] args.toList→(∃ A,abody V A fn [.vs r fl 1] []=some (R,H')) →
    Calls P f args w fun e w'=>∃ v ρ',e=.returned v∧Sim U V.G w (WrO ρ (tagH 0 [])) ρ' (hst H') emptyAct w'∧Rep w' (Wr U ρ' (tagH 0 H')) ρ' R v:=by
   intro fl hfl ⟨A,ha⟩
   exact(callOk_of_body hm h hE (A:=A) (run:=fun X' H'=>match abody V A fn X' H' with | some (r,H)=>some (true,r,H) | none=>none) hf hn hb (by
    intro X H r H' h
    split at h
    ·rename_i r0 H0 e;injection h with h;injection h with h1 h;injection h with h2 h3;subst h2;subst h3;exact e
    ·contradiction)).does [.vs r fl 1] [] R H' (by simp only [ha]) U w ρ args hini hs hfl
  generalize hl:args.toList=l at hargs
  match l,hargs with
  | [u],⟨hu,_⟩=>
   have hok:=okV_of_rep hu
   obtain⟨q1,q2⟩:=h1 hok
   cases hu with
   | vs0 _ _ cap a hr0 hn0 hl0=>
    cases a with
    | none=>exact key 3 (by rw [hl];exact⟨.vs0 r 1 cap none hr0 hn0 (.inr ⟨rfl,.inr ⟨rfl,rfl⟩⟩),trivial⟩) (q2 hn0)
    | some a=>exact key 2 (by rw [hl];exact⟨.vs0 r 1 cap (some a) hr0 hn0 (.inr ⟨rfl,.inl ⟨rfl,by simp⟩⟩),trivial⟩) q1
   | vs _ _ _ l cap blk base vals hr0 h0 hn0 hp hk hcap hm2 hW hc hrep=>
    exact key 2 (by rw [hl];exact⟨.vs r 2 1 l cap blk base vals hr0 h0 hn0 hp (.inr ⟨rfl,.inr rfl⟩) hcap hm2 hW hc hrep,trivial⟩) q1
end Go.Am
end