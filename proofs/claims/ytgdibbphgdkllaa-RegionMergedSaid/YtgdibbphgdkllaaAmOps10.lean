/- Part of a proof. -/
import Derived.Test.YtgdibbphgdkllaaAmOps8
set_option linter.unusedSimpArgs false
set_option linter.unusedVariables false
section
/- Operations that make memory. -/
namespace Go.Am
open Go
variable {P : Program} {V : Env} {U : Oth} {w0 : World} {W0 : Nat → Prop} {o : Oper} {ρ ρ' : Rho} {s s' : St} {a : Act} {w w' : World} {av : AV}
theorem newBlk_spec{i n:Nat}{r:AV}{pre:Bool}{f:Nat→AV}(h:newBlk s i n r pre f=some (true,av,s')):
  pre=true∧hasKey (s.next+16*i) s.heap=false∧av=f (s.next+16*i)∧s'=s.setH (s.next+16*i) (.cells n r true):=by
 unfold newBlk at h
 split at h <;> try contradiction
 rename_i hk _
 simp only [Option.some.injEq,Prod.mk.injEq] at h
 exact⟨h.1,hk,h.2.1.symm,h.2.2.symm⟩
theorem newBlk_tag{i n:Nat}{r:AV}{pre:Bool}{f:Nat→AV}(h:newBlk s i n r pre f=some (true,av,s')):r.tag=none:=by
 unfold newBlk at h
 split at h <;> try contradiction
 rename_i ht
 exact ht
theorem newBlkT_spec{t i n:Nat}{r:AV}{pre:Bool}{f:Nat→AV}(h:newBlkT t s i n r pre f=some (true,av,s')):
  pre=true∧hasKey (s.next+16*i) s.heap=false∧av=f (s.next+16*i)∧s'=s.setH (s.next+16*i) (.cells n r true) ∧ ∀ t',r.tag=some t'→t'%512=t:=by
 unfold newBlkT at h
 split at h <;> try contradiction
 rename_i hk ht
 simp only [Option.some.injEq,Prod.mk.injEq] at h
 refine⟨h.1,hk,h.2.1.symm,h.2.2.symm,fun t' e=>?_⟩
 rw [e] at ht
 exact Nat.eq_of_beq_eq_true ht
theorem no_tag{r:AV}{t:Nat}(h:r.tag=none):∀ t',r.tag=some t'→t'%512=t∧512≤t':=fun t' ht=>by rw [h] at ht;cases ht
theorem run_newRow(t:TypeId)(c:Array Value)(w:World):(newRow t c).run P w=.ok ⟨w.heap.size,0,none⟩ (w.alloc (.cells c t)):=by
 simp [newRow,newObj,Sem.run]
theorem same_alloc(w:World)(o:Obj):WSame w (w.alloc o):=⟨rfl,rfl,rfl⟩
theorem heap_alloc(w:World)(o:Obj):(w.alloc o).heap=w.heap.push o:=rfl
theorem newVar_ok(hs:Sim U V.G w0 W0 ρ s a w){id n t:Nat}{r:AV}{c:Array Value}(hid:hasKey id s.heap=false)(hc:Rep w (Wr U ρ s.heap) ρ (.agg n r) (.agg c))(h0:0 < n)(htag:∀ t',r.tag=some t'→t'%512=t):
  ∃ ρ',Sim U V.G w0 W0 ρ' (s.setH id (.cells n r true)) a (w.alloc (.cells c t))∧Rep (w.alloc (.cells c t)) (Wr U ρ' (s.setH id (.cells n r true)).heap) ρ' (.ptr id 0 n 0 0 0 n) (.pointer (some ⟨w.heap.size,0,none⟩)):=by
 cases hc with | agg _ _ _ hw hr hcs hrep=>
 obtain⟨g1,_,_⟩:=hs.newBlock (c:=c) (t:=t) (fr:=(0,0)) hid (same_alloc w _) (heap_alloc w _) hw hr (by omega) hrep (fun j _ h=>by omega) (Nat.le_refl _) (fun t' ht=>⟨htag t' ht,fun _=>by omega⟩)
 refine⟨_,g1,?_⟩
 have:=Rep.ptr (w:=w.alloc (.cells c t)) (W:=Wr U (ρ.set id (some ⟨w.heap.size,0,n,c.size,t⟩)) (s.setH id (.cells n r true)).heap) id 0 n 0 0 0 n ⟨w.heap.size,0,n,c.size,t⟩ (Rho.set_same ρ _ _) (fun _=>rfl) (by simp [ix]) (by simp) h0
 simpa [ix] using this
theorem alloc_ok(h:TysOk P V.T)(hs:Sim U V.G w0 W0 ρ s a w){t:Nat}(ho:o.op=.alloc t){i:Nat}(ha:aop V i o s=some (true,av,s')):OpOk U P V w0 W0 o a w av s':=by
 have ha':=ha
 simp only [aop,ho] at ha
 split at ha <;> try contradiction
 rename_i r hz
 obtain⟨_,hk,rfl,rfl,ht⟩:=newBlkT_spec ha
 obtain⟨h0,z,g1,g2,g3⟩:=zero_ok h hz w (Wr U ρ s.heap) ρ
 have g4:Rep w (Wr U ρ s.heap) ρ (.agg (V.T.at t).sz (tagged V.T t r)) (.agg z.cells):=by
  cases g3 with | agg _ _ cs hw hr hc hrep=>
  obtain⟨e1,e2,e3⟩:=tagged_row (T:=V.T) (t:=t) hw
  exact .agg _ _ _ e1 (e2.trans hr) hc fun j hj=>by rw [e3];exact hrep j hj
 obtain⟨ρ',q1,q2⟩:=newVar_ok (t:=t) hs hk g4 h0 ht
 refine ok_value (v:=.pointer (some ⟨w.heap.size,0,none⟩)) (w':=w.alloc (.cells z.cells t)) ?_ q1 q2
 simp only [execOp,ho]
 exact run_v (by simp [Instr.alloc,g1,newVar,run_newRow])
theorem rep_row{W:Nat→Prop}{x:AV}{v:Value}(hx:Rep w W ρ x v)(hl:x.lies=true):Rep w W ρ (.agg x.csize x.torow) (.agg v.cells):=by
 cases x <;> simp only [AV.lies,AV.scal,reduceCtorEq,Bool.false_eq_true] at hl
 case agg n r=>cases hx;simp only [AV.csize,AV.torow,Value.cells];constructor <;> assumption
 all_goals
  simp only [AV.csize,AV.torow]
  rw [(hx.one rfl).1]
  exact rep_one hx rfl
theorem Sim.newEmpty(h:Sim U V.G w0 W0 ρ s a w){id:Nat}{r:AV}(hid:hasKey id s.heap=false)(hr:r.wf)(hs:r.size=0)(htag:True:=trivial):
  Sim U V.G w0 W0 (ρ.set id none) (s.setH id (.cells 0 r true)) a w∧(∀ x v,Rep w (Wr U ρ s.heap) ρ x v→Rep w (Wr U (ρ.set id none) (s.setH id (.cells 0 r true)).heap) (ρ.set id none) x v):=by
 have hne:ρ id=none:=by
  cases hh:ρ id with
  | none=>rfl
  | some x=>have:=h.dom id (by rw [hh];simp);rw [hid] at this;cases this
 have hρ:∀ i x,ρ i=some x→(ρ.set id none) i=some x:=fun i x hx=>by
  rw [Rho.set_other];exact hx
  rintro rfl;rw [hne] at hx;cases hx
 have wo:∀ b,WrO (ρ.set id none) ((id,.cells 0 r true) :: s.heap) b→WrO ρ s.heap b∨w.heap.size≤b:=by
  rintro b (hx | ⟨i,n',r',L,h1,h2,h3⟩)
  ·exact .inl (.inl hx)
  rw [lkH_put] at h1
  by_cases hi:i=id
  ·subst hi;rw [Rho.set_same] at h2;cases h2
  ·rw [if_neg hi] at h1;rw [Rho.set_other _ _ hi] at h2;exact .inl (.inr ⟨i,n',r',L,h1,h2,h3⟩)
 refine⟨h.step (fun _ _ _=>rfl) wo hρ (Nat.le_refl _) (WSame.refl _) ?_ ?_ ?_ ?_ (h.xk.step (Nat.le_refl _) (fun _ _ h=>h) fun i n1 r1 c1 L1 h1 h2=>?_),fun x v hx=>hx.step (fun _ _ _=>rfl) wo hρ⟩
 ·intro i n' r' b hl
  rw [lkH_put] at hl
  by_cases hi:i=id
  ·subst hi
   rw [if_pos rfl] at hl;cases hl
   have hM:=wf_isM hr
   exact⟨fun _=>hr,hs,.inl ⟨Rho.set_same _ _ _,rfl⟩,fun _ _ _ _ e=>absurd e (isM_no hM),fun t ht=>.inl (Rho.set_same _ _ _)⟩
  ·rw [if_neg hi] at hl
   exact(h.bl i n' r' b hl).keep (fun _ _ _=>rfl) wo hρ (Nat.le_refl _) (fun L _ hlt=>rfl) (fun _ _ _ _=>⟨rfl,rfl⟩)
 ·intro i i' n1 r1 n2 r2 b2 L L' h1 h2 h3 h4 h5
  rw [lkH_put] at h1 h2
  have hi:i≠id:=by rintro rfl;rw [Rho.set_same] at h3;cases h3
  have hi':i'≠id:=by rintro rfl;rw [Rho.set_same] at h4;cases h4
  rw [if_neg hi] at h1;rw [if_neg hi'] at h2;rw [Rho.set_other _ _ hi] at h3;rw [Rho.set_other _ _ hi'] at h4
  exact h.sep i i' n1 r1 n2 r2 b2 L L' h1 h2 h3 h4 h5
 ·intro i hi
  rw [hasKey_put]
  by_cases he:i=id
  ·simp [he]
  ·rw [Rho.set_other _ _ he] at hi;simp [h.dom i hi]
 ·intro i n1 r1 b1 L1 h1 h2
  rw [lkH_put] at h1
  have hi:i≠id:=by rintro rfl;rw [Rho.set_same] at h2;cases h2
  rw [if_neg hi] at h1;rw [Rho.set_other _ _ hi] at h2
  exact h.su i n1 r1 b1 L1 h1 h2
 ·rw [lkH_put] at h1
  have hi:i≠id:=by rintro rfl;rw [Rho.set_same] at h2;cases h2
  rw [if_neg hi] at h1;rw [Rho.set_other _ _ hi] at h2
  exact .inl ⟨i,n1,r1,c1,L1,h1,h2,rfl⟩
theorem ownF_keep(h:TysOk P V.T):∀ (fs:List (Nat×Nat)) (l:AVs) (id:Nat) {s s':St} {ρ:Rho} {l':AVs} {cs:Nat→Value},Sim U V.G w0 W0 ρ s a w→ownF V fs l id s=some (l',s')→l.wfS→(∀ j,j < l.sizeS→Rep w (Wr U ρ s.heap) ρ (l.cellS j) (cs j)) →
  ∃ ρ',Sim U V.G w0 W0 ρ' s' a w∧s'.next=s.next∧l'.wfS∧l'.sizeS=l.sizeS∧(∀ j,j < l.sizeS→Rep w (Wr U ρ' s'.heap) ρ' (l'.cellS j) (cs j)) ∧ ∀ x v,Rep w (Wr U ρ s.heap) ρ x v→Rep w (Wr U ρ' s'.heap) ρ' x v
 | [],l,id,s,s',ρ,l',cs,hs,he,hw,hc=>by
  simp only [ownF,Option.some.injEq,Prod.mk.injEq] at he
  obtain⟨rfl,rfl⟩:=he
  exact⟨ρ,hs,rfl,hw,rfl,hc,fun _ _ h=>h⟩
 | (t,off) :: fs,.nil,id,s,s',ρ,l',cs,hs,he,hw,hc=>by
  simp only [ownF,Option.some.injEq,Prod.mk.injEq] at he
  obtain⟨rfl,rfl⟩:=he
  exact⟨ρ,hs,rfl,hw,rfl,hc,fun _ _ h=>h⟩
 | (t,off) :: fs,.cons n v l,id,s,s',ρ,l',cs,hs,he,hw,hc=>by
  obtain⟨hv,hn,hl⟩:=hw
  have keep:∀ l1 s1,ownF V fs l id s=some (l1,s1) → ∃ ρ',Sim U V.G w0 W0 ρ' s1 a w∧s1.next=s.next∧(AVs.cons n v l1).wfS∧(AVs.cons n v l1).sizeS=(AVs.cons n v l).sizeS∧(∀ j,j < (AVs.cons n v l).sizeS→Rep w (Wr U ρ' s1.heap) ρ' ((AVs.cons n v l1).cellS j) (cs j)) ∧ ∀ x v,Rep w (Wr U ρ s.heap) ρ x v→Rep w (Wr U ρ' s1.heap) ρ' x v:=by
   intro l1 s1 h1
   obtain⟨ρ',g1,g2,g3,g4,g5,g6⟩:=ownF_keep h fs l id hs h1 hl (cs:=fun j=>cs (n+j)) (fun j hj=>by
    have:=hc (n+j) (by simp only [AVs.sizeS];omega)
    rwa [cellS_ge (by omega),Nat.add_sub_cancel_left] at this)
   refine⟨ρ',g1,g2,⟨hv,hn,g3⟩,by simp only [AVs.sizeS,g4],fun j hj=>?_,g6⟩
   by_cases hlt:j < n
   ·have:=hc j hj
    rw [cellS_lt hlt] at this ⊢
    exact g6 _ _ this
   ·rw [cellS_ge (by omega)]
    simp only [AVs.sizeS] at hj
    have:=g5 (j-n) (by omega)
    rwa [show n+(j-n)=j by omega] at this
  simp only [ownF] at he
  split at he
  ·rename_i r0 sz hz
   have hv':v=.one .ns ∧ ∃ e,zrow V.T 8 e 0=some r0:=by
    unfold nilSl at hz
    split at hz <;> try contradiction
    split at hz <;> try contradiction
    rename_i hr0
    injection hz with hz;injection hz with hz1 hz2;subst hz1
    exact⟨rfl,_,hr0⟩
   obtain⟨rfl,e,hz⟩:=hv'
   split at he <;> try contradiction
   rename_i hkey
   split at he <;> try contradiction
   rename_i l1 s1 h3
   simp only [Option.some.injEq,Prod.mk.injEq] at he
   obtain⟨rfl,rfl⟩:=he
   obtain⟨_,q0,q9,_⟩:=h.zrow hz
   obtain⟨p1,p2⟩:=hs.newEmpty (id:=id) (r:=r0) hkey (wf_leaf q0) (by rw [q9];simp) 
   simp only [AV.size] at hn
   subst hn
   obtain⟨ρ',g1,g2,g3,g4,g5,g6⟩:=ownF_keep h fs l (id+1) p1 h3 hl (cs:=fun j=>cs (1+j)) (fun j hj=>by
    have:=hc (1+j) (by simp only [AVs.sizeS,AV.size];omega)
    rw [cellS_ge (by omega),Nat.add_sub_cancel_left] at this
    exact p2 _ _ this)
   refine⟨ρ',g1,g2,⟨rfl,rfl,g3⟩,by simp only [AVs.sizeS,AV.size,g4],fun j hj=>?_,fun x v hx=>g6 _ _ (p2 x v hx)⟩
   by_cases hlt:j < 1
   ·have:=hc j hj
    rw [cellS_lt hlt] at this ⊢
    obtain rfl:j=0:=by omega
    generalize cs 0=u at this ⊢
    cases this with | ns=>
    exact g6 _ _ (.own0 id sz none (Rho.set_same _ _ _))
   ·rw [cellS_ge (by omega)]
    simp only [AVs.sizeS,AV.size] at hj
    have:=g5 (j-1) (by omega)
    rwa [show 1+(j-1)=j by omega] at this
  ·split at he <;> try contradiction
   rename_i l1 s1 h1
   simp only [Option.some.injEq,Prod.mk.injEq] at he
   obtain⟨rfl,rfl⟩:=he
   exact keep _ _ h1
theorem ownB_ok(h:TysOk P V.T){d:TyD}{r r':AV}{id n:Nat}{cs:Array Value}(hs:Sim U V.G w0 W0 ρ s a w)(he:ownB V d r id s=some (r',s'))(hx:Rep w (Wr U ρ s.heap) ρ (.agg n r) (.agg cs)):
  ∃ ρ',Sim U V.G w0 W0 ρ' s' a w∧s'.next=s.next∧Rep w (Wr U ρ' s'.heap) ρ' (.agg n r') (.agg cs):=by
 unfold ownB at he
 split at he
 ·split at he
  ·split at he <;> try contradiction
   rename_i l' s1 h1
   simp only [Option.some.injEq,Prod.mk.injEq] at he
   obtain⟨rfl,rfl⟩:=he
   cases hx with | agg _ _ _ hw hr hc hrep=>
   simp only [AV.wf] at hw
   simp only [AV.size] at hr
   obtain⟨ρ',g1,g2,g3,g4,g5,g6⟩:=ownF_keep h _ _ _ (cs:=fun j=>cs.getD j Go.undef) hs h1 hw (fun j hj=>hrep j (by omega))
   exact⟨ρ',g1,g2,.agg n _ cs (by simpa only [AV.wf] using g3) (by simp only [AV.size];omega) hc fun j hj=>g5 j (by omega)⟩
  ·simp only [Option.some.injEq,Prod.mk.injEq] at he
   obtain⟨rfl,rfl⟩:=he
   exact⟨ρ,hs,rfl,hx⟩
 ·simp only [Option.some.injEq,Prod.mk.injEq] at he
  obtain⟨rfl,rfl⟩:=he
  exact⟨ρ,hs,rfl,hx⟩
theorem box_ok(h:TysOk P V.T)(hs:Sim U V.G w0 W0 ρ s a w){t:Nat}{x:Operand}(ho:o.op=.box t x){i:Nat}(ha:aop V i o s=some (true,av,s')):OpOk U P V w0 W0 o a w av s':=by
 simp only [aop,ho] at ha
 split at ha <;> try contradiction
 rename_i hc
 rw [Bool.and_eq_true,Bool.and_eq_true,Nat.beq_eq,Nat.blt_eq] at hc
 obtain⟨hc,h0⟩:=hc
 split at ha <;> try contradiction
 rename_i r1 s1 hB
 have g3:=rep_row (hs.ev x) hc.2
 rw [hc.1] at g3
 obtain⟨ρ1,hs1,_,g4⟩:=ownB_ok h hs hB g3
 obtain⟨_,hk,rfl,rfl⟩:=newBlk_spec ha
 obtain⟨ρ',q1,q2⟩:=newVar_ok (t:=t) hs1 hk g4 h0 (fun t' ht=>by rw [newBlk_tag ha] at ht;cases ht)
 refine ok_value (v:=.pointer (some ⟨w.heap.size,0,none⟩)) (w':=w.alloc (.cells (a.eval x).cells t)) ?_ q1 q2
 simp only [execOp,ho]
 exact run_v (by simp [Instr.box,newVar,run_newRow])
theorem newOwn_ok(hs:Sim U V.G w0 W0 ρ s a w){id l sz t:Nat}{r:AV}{c:Array Value}{cap:Nat}{fr:Nat×Nat}{w':World}(hsm:WSame w w')(hw':w'.heap=w.heap.push (.cells c t fr))(hid:hasKey id s.heap=false)(hw:r.wf)(hr:r.size=l*sz)
  (hrep:∀ j,j < l*sz→Rep w (Wr U ρ s.heap) ρ (r.cell j) (c.getD j Go.undef)) (h0:0 < sz) (hc:cap*sz≤c.size) (hl:l≤cap) (hm:l < 4611686018427387904) (hfz:∀ j,j < c.size→¬ (fr.1≤j∧j < fr.2)) {n:Nat} (hn:n=l*sz) (htag:∀ t',r.tag=some t'→t'%512=t∧512≤t') (hfle:fr.1≤fr.2:=by simp) :
  ∃ ρ',Sim U V.G w0 W0 ρ' (s.setH id (.cells n r true)) a w'∧Rep w' (Wr U ρ' (s.setH id (.cells n r true)).heap) ρ' (.own id (klen l sz) sz) (.slice (some ⟨w.heap.size,0,none⟩) l cap):=by
 subst hn
 have hle:l*sz≤c.size:=Nat.le_trans (Nat.mul_le_mul_right _ hl) hc
 obtain⟨g1,_,_⟩:=hs.newBlock (c:=c) (t:=t) (fr:=fr) hid hsm hw' hw hr hle hrep hfz hfle (fun t' ht=>⟨(htag t' ht).1,fun h=>by have:=(htag t' ht).2;omega⟩)
 exact⟨_,g1,.own id _ sz l cap ⟨w.heap.size,0,l*sz,c.size,t⟩ (Rho.set_same _ _ _) rfl rfl hl (by simpa using hc) h0 hm⟩
theorem bsz_eq{r:AV}{l sz:Nat}(hr:r.size=l*sz):bsz r l sz=l*sz:=by
 unfold bsz;split
 ·rw [hr]
 ·rfl
theorem freeze_key(s:St)(x:AV)(id:Nat):(∀ n r,lkH id s.heap≠.cells n r true) → ∀ n r,lkH id (freeze s x).heap≠.cells n r true:=by
 have one:∀ (s:St) (j:Nat),(∀ n r,lkH id s.heap≠.cells n r true) → ∀ n r,lkH id (freezeId s j).heap≠.cells n r true:=by
  intro s j h n r
  unfold freezeId
  split
  ·simp only [St.setH];rw [lkH_put]
   split
   ·intro e;cases e
   ·exact h n r
  ·exact h n r
 intro h
 unfold freeze
 split
 ·exact one s _ h
 ·exact one s _ h
 ·exact h
theorem freeze_sub(s:St)(x:AV)(id n:Nat)(r:AV)(h:lkH id (freeze s x).heap=.cells n r true):lkH id s.heap=.cells n r true:=by
 have one:∀ (s:St) (j:Nat),lkH id (freezeId s j).heap=.cells n r true→lkH id s.heap=.cells n r true:=by
  intro s j h
  unfold freezeId at h
  split at h
  ·simp only [St.setH] at h;rw [lkH_put] at h
   split at h
   ·cases h
   ·exact h
  ·exact h
 unfold freeze at h
 split at h
 ·exact one s _ h
 ·exact one s _ h
 ·exact h
theorem Sim.freezeAll:∀ (l:List AV) {s:St},Sim U V.G w0 W0 ρ s a w→Sim U V.G w0 W0 ρ (freezeAll s l) a w∧(∀ x v,Rep w (Wr U ρ s.heap) ρ x v→Rep w (Wr U ρ (Am.freezeAll s l).heap) ρ x v)∧(Am.freezeAll s l).next=s.next ∧
  (∀ id,hasKey id s.heap=hasKey id (Am.freezeAll s l).heap) ∧ ∀ b,WrO ρ (Am.freezeAll s l).heap b→WrO ρ s.heap b
 | [],s,h=>⟨h,fun _ _ h=>h,rfl,fun _=>rfl,fun _ h=>h⟩
 | x :: l,s,h=>by
  obtain⟨h1,h2⟩:=h.freeze x
  obtain⟨g1,g2,g3,g4,g5⟩:=Sim.freezeAll l h1
  have key:(Am.freeze s x).next=s.next∧(∀ id,hasKey id s.heap=hasKey id (Am.freeze s x).heap):=by
   have one:∀ j,(Am.freezeId s j).next=s.next ∧ ∀ id,hasKey id s.heap=hasKey id (Am.freezeId s j).heap:=by
    intro j
    unfold Am.freezeId
    split
    ·rename_i n r b hl
     refine⟨rfl,fun id=>?_⟩
     simp only [St.setH];rw [hasKey_put]
     by_cases e:id=j
     ·subst e
      cases hk:hasKey id s.heap with
      | true=>simp
      | false=>rw [lkH_none hk] at hl;cases hl
     ·simp [e]
    ·exact⟨rfl,fun _=>rfl⟩
   unfold Am.freeze
   split
   ·exact one _
   ·exact one _
   ·exact⟨rfl,fun _=>rfl⟩
  refine⟨g1,fun y v hy=>g2 y v (h2 y v hy),g3.trans key.1,fun id=>(key.2 id).trans (g4 id),fun b hb=>?_⟩
  rcases g5 b hb with hx | ⟨id,n,r,L,q1,q2,q3⟩
  ·exact .inl hx
  ·exact .inr ⟨id,n,r,L,freeze_sub s x id n r q1,q2,q3⟩
def frozenBy:AV→Nat→Prop
 | .own id _ _,i=>i=id
 | .sl id _ _ _ _ _,i=>i=id
 | _,_=>False
theorem freeze_other{s:St}{x:AV}{id:Nat}(h:¬ frozenBy x id):lkH id (freeze s x).heap=lkH id s.heap:=by
 have one:∀ j,id≠j→lkH id (freezeId s j).heap=lkH id s.heap:=by
  intro j hj
  unfold freezeId
  split
  ·simp only [St.setH];rw [lkH_put,if_neg hj]
  ·rfl
 unfold freeze
 split
 ·exact one _ h
 ·exact one _ h
 ·rfl
theorem freeze_self{s:St}{x:AV}{id:Nat}(h:frozenBy x id):∀ n r,lkH id (freeze s x).heap≠.cells n r true:=by
 have one:∀ n r,lkH id (freezeId s id).heap≠.cells n r true:=by
  intro n r
  unfold freezeId
  split
  ·simp only [St.setH];rw [lkH_put,if_pos rfl];intro e;cases e
  ·rename_i hg;rw [hg];intro e;cases e
 unfold freeze
 cases x <;> simp only [frozenBy] at h
 ·subst h;exact one
 ·subst h;exact one
theorem freezeAll_keep:∀ (l:List AV) (s:St) (id:Nat),(∀ n r,lkH id s.heap≠.cells n r true) → ∀ n r,lkH id (freezeAll s l).heap≠.cells n r true
 | [],_,_,h=>h
 | x :: l,s,id,h=>freezeAll_keep l (freeze s x) id (freeze_key s x id h)
theorem freezeAll_self:∀ (l:List AV) (s:St) (x:AV) (id:Nat),x∈l→frozenBy x id → ∀ n r,lkH id (freezeAll s l).heap≠.cells n r true
 | y :: l,s,x,id,hx,h=>by
  rcases List.mem_cons.1 hx with rfl | hx
  ·exact freezeAll_keep l _ id (freeze_self h)
  ·exact freezeAll_self l (freeze s y) x id hx h
theorem freezeAll_sub:∀ (l:List AV) (s:St) (id n:Nat) (r:AV),lkH id (freezeAll s l).heap=.cells n r true→lkH id s.heap=.cells n r true
 | [],_,_,_,_,h=>h
 | x :: l,s,id,n,r,h=>freeze_sub s x id n r (freezeAll_sub l (freeze s x) id n r h)
theorem freezeAll_wr{l:List AV}{s:St}{x:AV}{b:Nat}(hx:x∈l)(h:¬ Wr U ρ (freeze s x).heap b):¬ Wr U ρ (freezeAll s l).heap b:=by
 rintro(hU | hX | ⟨id,n,r,L,h1,h2,h3⟩)
 ·exact h (.inl hU)
 ·exact h (.inr (.inl hX))
 by_cases hf:frozenBy x id
 ·exact freezeAll_self l s x id hx hf n r h1
 ·exact h (.inr (.inr ⟨id,n,r,L,by rw [freeze_other hf];exact freezeAll_sub l s id n r h1,h2,h3⟩))
theorem coerce_many(h:TysOk P V.T)(hs:Sim U V.G w0 W0 ρ s a w){l:List AV}{e:Nat}{x y:AV}{u:Value}(hl:x∈l)(hx:Rep w (Wr U ρ s.heap) ρ x u)(hv:coerce V s (some e) x=some y):
  Rep w (Wr U ρ (freezeAll s l).heap) ρ y u:=by
 simp only [coerce,Option.map_eq_some_iff] at hv
 obtain⟨⟨r,len,sz⟩,hv,rfl⟩:=hv
 obtain⟨g1,g2,h0,hm,b,cap,rfl,g3,g4⟩:=view_cells h hs hx hv
 have hf:=(hs.freezeAll l).2.1
 rcases g4 with g4 | ⟨blk,base,vals,rfl,g5,g6⟩
 ·have:len=0:=by rcases Nat.mul_eq_zero.1 g4 with h | h <;> omega
  subst this
  unfold mkvs;rw [klen_zero]
  exact .vs0 r sz cap b g1 (by simpa using g2)
 ·by_cases hln:0 < len
  ·exact .vs r _ sz len cap blk base vals g1 (by omega) g2 hln (.inl rfl) g3 hm (freezeAll_wr hl g6) (fun j hj=>(g5 j hj).1) (fun j hj=>hf _ _ (g5 j hj).2)
  ·have:len=0:=by omega
   subst this
   unfold mkvs;rw [klen_zero]
   exact .vs0 r sz cap _ g1 (by simpa using g2)
theorem partsRep_coerce(h:TysOk P V.T)(hs:Sim U V.G w0 W0 ρ s a w)(e:Nat)(all:List AV):∀ (l:List (Nat×Operand)),(∀ p∈l,ev V s p.2∈all) →
  PartsRep w (Wr U ρ (freezeAll s all).heap) ρ (l.map fun p=>(p.1,(coerce V s (some e) (ev V s p.2)).getD .undef)) (l.map fun p=>(p.1,a.eval p.2))
 | [],_=>trivial
 | p :: l,hl=>by
  refine⟨rfl,?_,partsRep_coerce h hs e all l fun q hq=>hl q (by simp [hq])⟩
  cases hc:coerce V s (some e) (ev V s p.2) with
  | none=>exact .undef _
  | some y=>exact coerce_many h hs (hl p (by simp)) (hs.ev p.2) hc
theorem reps_wf{z:AV}(h:(AV.one z).wf):∀ n,(reps z n).wfS
 | 0=>trivial
 | n+1=>⟨h,rfl,reps_wf h n⟩
theorem reps_size(z:AV):∀ n,(reps z n).sizeS=n
 | 0=>rfl
 | n+1=>by simp only [reps,AVs.sizeS,AV.size,reps_size z n];omega
theorem reps_cell(z:AV):∀ n j,j < n→(reps z n).cellS j=(AV.one z).cell 0
 | 0,_,h=>by omega
 | n+1,0,_=>by simp only [reps];rw [cellS_lt (by omega)]
 | n+1,j+1,h=>by simp only [reps];rw [cellS_ge (by omega)];exact reps_cell z n j (by omega)
theorem buildSlice_ok(h:TysOk P V.T)(hs:Sim U V.G w0 W0 ρ s a w){t n:Nat}{parts:Array (Nat×Operand)}(ho:o.op=.buildSlice t n parts){i:Nat}(ha:aop V i o s=some (true,av,s')):OpOk U P V w0 W0 o a w av s':=by
 simp only [aop,ho] at ha
 have hlist:(parts.map fun (i,x)=>(i,a.eval x)).toList=parts.toList.map fun p=>(p.1,a.eval p.2):=by simp
 split at ha <;> try contradiction
 rename_i e he
 split at ha
 rotate_left
 ·-- cells of values of other types
  split at ha <;> try contradiction
  rename_i z hz
  split at hz <;> try contradiction
  rename_i hle
  rw [Bool.and_eq_true,Nat.ble_eq,Nat.beq_eq] at hle
  split at ha <;> try contradiction
  rename_i r hfill
  split at ha <;> try contradiction
  rename_i r1 s1 hB
  obtain⟨_,hk,rfl,rfl⟩:=newBlk_spec ha
  obtain⟨h0,zv,g1,g2,g3⟩:=zero_ok h hz w (Wr U ρ s.heap) ρ
  rw [hle.2] at h0 g2 g3
  have g3':Rep w (Wr U ρ s.heap) ρ (.agg n (.segs (reps z n))) (.agg ((Array.range n).map (zv.cells[· % zv.cells.size]!))):=by
   cases g3 with | agg _ _ _ hw1 hr1 hc1 hrep1=>
   refine .agg _ _ _ (by simp only [AV.wf];exact reps_wf hw1 n) (by simp only [AV.size];exact reps_size z n) (by simp) fun j hj=>?_
   simp only [AV.cell]
   rw [reps_cell z n j hj]
   have:=hrep1 0 (by omega)
   have e1:j%1 < zv.cells.size:=by rw [g2];omega
   rwa [show((Array.range n).map (zv.cells[· % zv.cells.size]!)).getD j Go.undef=zv.cells.getD 0 Go.undef by
    rw [Array.getD_eq_getD_getElem?,Array.getElem?_map,Array.getElem?_range,if_pos hj]
    simp only [Option.map_some,Option.getD_some]
    rw [g2,getElem!_pos zv.cells _ e1,Array.getD_eq_getD_getElem?]
    rw [Array.getElem?_eq_getElem (show 0 < zv.cells.size by omega)]
    simp [Nat.mod_one]]
  obtain⟨cs',q1,q2⟩:=fillR_ok _ _ _ _ _ (partsRep_map (w:=w) (ev V s) a.eval (fun x=>hs.ev x) parts.toList) g3' hfill
  obtain⟨ρ1,hs1,_,q3⟩:=ownB_ok h hs hB q2
  cases q3 with | agg _ _ _ hw hsz hcs hrep=>
  obtain⟨ρ',p1,p2⟩:=newOwn_ok (htag:=no_tag (newBlk_tag ha)) (t:=e) (l:=n) (sz:=1) (cap:=n) (c:=cs') (fr:=(0,0)) hs1 (same_alloc w _) (heap_alloc w _) hk hw (by omega) (fun j hj=>hrep j (by omega)) (by omega) (by omega) (Nat.le_refl _) (by omega) (fun j _ hh=>by omega) (n:=n) (by omega)
  refine ok_value (v:=.slice (some ⟨w.heap.size,0,none⟩) n n) (w':=w.alloc (.cells cs' e)) ?_ p1 p2
  simp only [execOp,ho]
  refine run_v ?_
  have hif:¬ (n*(V.T.at e).sz > 2^24):=by rw [hle.2];omega
  simp only [Instr.buildSlice,Sem.run_bind,run_underlying' ((h t).slice e he),Result.andThen_ok,run_sizeOf' h (show 0 < (V.T.at e).sz by omega),if_neg hif,hlist]
  rw [hle.2,Nat.mul_one]
  by_cases hz0:n=0
  ·subst hz0
   simp only [if_true,Sem.run_pure,Result.andThen_ok,Sem.run_bind]
   have e0:∀ f:Nat→Value,(Array.range 0).map f = #[]:=fun f=>by simp
   rw [e0] at q1
   rw [e0,q1]
   simp [run_newRow]
  ·rw [if_neg hz0]
   simp only [Sem.run_bind,g1,Result.andThen_ok,Sem.run_pure,q1]
   simp [run_newRow]
 rename_i z hz
 split at hz <;> try contradiction
 rename_i hle
 rw [Nat.ble_eq] at hle
 split at ha <;> try contradiction
 rename_i r hr
 have main:∀ (s1:St),s1.next=s.next→Sim U V.G w0 W0 ρ s1 a w→PartsRep w (Wr U ρ s1.heap) ρ (match (V.T.at e).d with
   | .slice e'=>parts.toList.map fun (p:Nat×Operand)=>(p.1,(coerce V s (some e') (ev V s p.2)).getD .undef)
   | _=>parts.toList.map fun (p:Nat×Operand)=>(p.1,ev V s p.2)) (parts.toList.map fun p=>(p.1,a.eval p.2)) →
   newBlk s1 i (bsz r n (V.T.at e).sz) r true (fun id=>.own id (klen n (V.T.at e).sz) (V.T.at e).sz)=some (true,av,s')→OpOk U P V w0 W0 o a w av s':=by
  intro s1 hnext hs1 hp hb
  obtain⟨_,hk,rfl,rfl⟩:=newBlk_spec hb
  obtain⟨h0,hleaf,zv,g1,g2,g3⟩:=zeros_ok h hz w (Wr U ρ s1.heap) ρ
  have hfill:fillR (n*(V.T.at e).sz) (V.T.at e).sz z (match (V.T.at e).d with
   | .slice e'=>parts.toList.map fun (p:Nat×Operand)=>(p.1,(coerce V s (some e') (ev V s p.2)).getD .undef)
   | _=>parts.toList.map fun (p:Nat×Operand)=>(p.1,ev V s p.2))=some r:=by
   split at hr <;> simp_all
  obtain⟨cs',q1,q2⟩:=fillR_ok _ _ _ _ _ hp g3 hfill
  cases q2 with | agg _ _ _ hw hsz hcs hrep=>
  have hn:n < 4611686018427387904:=by
   have:=Nat.le_mul_of_pos_right n h0
   omega
  obtain⟨ρ',p1,p2⟩:=newOwn_ok (htag:=no_tag (newBlk_tag hb)) (t:=e) (cap:=n) (c:=cs') (fr:=(0,0)) hs1 (same_alloc w _) (heap_alloc w _) hk hw hsz hrep h0 (by rw [hcs];exact Nat.le_refl _) (Nat.le_refl _) hn (fun j _ hh=>by omega) (bsz_eq hsz)
  refine ok_value (v:=.slice (some ⟨w.heap.size,0,none⟩) n n) (w':=w.alloc (.cells cs' e)) ?_ p1 p2
  simp only [execOp,ho]
  refine run_v ?_
  have hif:¬ (n*(V.T.at e).sz > 2^24):=by omega
  simp only [Instr.buildSlice,Sem.run_bind,run_underlying' ((h t).slice e he),Result.andThen_ok,run_sizeOf' h h0,if_neg hif,hlist]
  by_cases hz0:n*(V.T.at e).sz=0
  ·have e0:∀ f:Nat→Value,(Array.range 0).map f = #[]:=fun f=>by simp
   rw [hz0,e0] at q1
   rw [hz0]
   simp only [if_true,Sem.run_pure,Result.andThen_ok,Sem.run_bind,e0,q1]
   simp [run_newRow]
  ·rw [if_neg hz0]
   simp only [Sem.run_bind,g1,Result.andThen_ok,Sem.run_pure,q1]
   simp [run_newRow]
 split at hr
 ·rename_i e' he'
  rw [he'] at ha main
  dsimp only at ha main
  have hfold:(parts.toList.foldl (fun s' (p:Nat×Operand)=>freeze s' (ev V s p.2)) s)=freezeAll s (parts.toList.map fun p=>ev V s p.2):=by
   unfold freezeAll;rw [List.foldl_map]
  rw [hfold] at ha
  obtain⟨f1,_,f3,_,_⟩:=hs.freezeAll (parts.toList.map fun p=>ev V s p.2)
  exact main _ f3 f1 (partsRep_coerce h hs e' _ _ fun p hp=>List.mem_map_of_mem hp) ha
 ·rename_i hne
  have e1:(match (V.T.at e).d with
   | .slice e'=>parts.toList.map fun (p:Nat×Operand)=>(p.1,(coerce V s (some e') (ev V s p.2)).getD .undef)
   | _=>parts.toList.map fun (p:Nat×Operand)=>(p.1,ev V s p.2))=parts.toList.map fun (p:Nat×Operand)=>(p.1,ev V s p.2):=by
   split
   ·exact absurd (by assumption) (hne _)
   ·rfl
  rw [e1] at main
  have ha2:newBlk s i (bsz r n (V.T.at e).sz) r true (fun id=>.own id (klen n (V.T.at e).sz) (V.T.at e).sz)=some (true,av,s'):=by
   split at ha
   ·exact absurd (by assumption) (hne _)
   ·exact ha
  exact main s rfl hs (partsRep_map (w:=w) (ev V s) a.eval (fun x=>hs.ev x) parts.toList) ha2
end Go.Am
end
section
/- Builtins: len, copy, append, min, max. -/
namespace Go.Am
open Go
variable {P : Program} {V : Env} {U : Oth} {w0 : World} {W0 : Nat → Prop} {o : Oper} {ρ ρ' : Rho} {s s' : St} {a : Act} {w w' : World} {av : AV}
theorem Sim.same(h:Sim U V.G w0 W0 ρ s a w){id n:Nat}{r:AV}{b:Bool}(hl:lkH id s.heap=.cells n r b):
  Sim U V.G w0 W0 ρ (s.setH id (.cells n r b)) a w∧(∀ x v,Rep w (Wr U ρ s.heap) ρ x v→Rep w (Wr U ρ (s.setH id (.cells n r b)).heap) ρ x v):=by
 have e:∀ i,lkH i (s.setH id (.cells n r b)).heap=lkH i s.heap:=fun i=>by
  simp only [St.setH];rw [lkH_put];split
  ·rename_i h;rw [h,hl]
  ·rfl
 have wo:∀ c,WrO ρ (s.setH id (.cells n r b)).heap c→WrO ρ s.heap c∨w.heap.size≤c:=by
  rintro c (hx | ⟨i,n',r',L,h1,h2,h3⟩)
  ·exact .inl (.inl hx)
  rw [e] at h1;exact .inl (.inr ⟨i,n',r',L,h1,h2,h3⟩)
 refine⟨h.step (fun _ _ _=>rfl) wo (fun _ _ h=>h) (Nat.le_refl _) (WSame.refl _) ?_ ?_ ?_ ?_ (h.xk.step (Nat.le_refl _) (fun _ _ h=>h) fun i n1 r1 c1 L1 h1 h2=>.inl ⟨i,n1,r1,c1,L1,(e i).symm.trans h1,h2,rfl⟩),fun x v hx=>hx.step (fun _ _ _=>rfl) wo (fun _ _ h=>h)⟩
 ·intro i n' r' b' hi
  have hi':=hi
  rw [show((id,Blk.cells n r b) :: s.heap)=(s.setH id (.cells n r b)).heap from rfl,e] at hi'
  exact(h.bl i n' r' b' hi').keep (fun _ _ _=>rfl) wo (fun _ _ h=>h) (Nat.le_refl _) (fun _ _ _=>rfl) (fun _ _ _ _=>⟨rfl,rfl⟩)
 ·intro i i' n1 r1 n2 r2 b2 L1 L2 h1 h2
  rw [show((id,Blk.cells n r b) :: s.heap)=(s.setH id (.cells n r b)).heap from rfl,e] at h1 h2
  exact h.sep i i' n1 r1 n2 r2 b2 L1 L2 h1 h2
 ·intro i hi;rw [hasKey_put];simp [h.dom i hi]
 ·intro i n1 r1 b1 L1 h1
  rw [show((id,Blk.cells n r b) :: s.heap)=(s.setH id (.cells n r b)).heap from rfl,e] at h1
  exact h.su i n1 r1 b1 L1 h1
structure Eqv (s t:St):Prop where
 tm:∀ d,lk d s.tmps=lk d t.tmps
 hp:∀ id,lkH id s.heap=lkH id t.heap
 key:∀ id,hasKey id s.heap=hasKey id t.heap
 next:s.next=t.next
 nt:s.nt=t.nt
 m:s.m=t.m
section
variable {t : St}
theorem Eqv.refl(s:St):Eqv s s:=⟨fun _=>rfl,fun _=>rfl,fun _=>rfl,rfl,rfl,rfl⟩
theorem Eqv.symm(h:Eqv s t):Eqv t s:=⟨fun d=>(h.tm d).symm,fun d=>(h.hp d).symm,fun d=>(h.key d).symm,h.next.symm,h.nt.symm,h.m.symm⟩
theorem Eqv.trans{u:St}(h:Eqv s t)(h':Eqv t u):Eqv s u:=⟨fun d=>(h.tm d).trans (h'.tm d),fun d=>(h.hp d).trans (h'.hp d),fun d=>(h.key d).trans (h'.key d),h.next.trans h'.next,h.nt.trans h'.nt,h.m.trans h'.m⟩
theorem Wr_eqv{H H':List (Nat×Blk)}(h:∀ id,lkH id H=lkH id H'):Wr U ρ H=Wr U ρ H':=by
 funext b
 unfold Wr WrO
 simp only [h]
theorem Sim.eqv(hs:Sim U V.G w0 W0 ρ s a w)(h:Eqv s t):Sim U V.G w0 W0 ρ t a w:=by
 have e:Wr U ρ t.heap=Wr U ρ s.heap:=Wr_eqv fun id=>(h.hp id).symm
 exact {
  tm:=fun d=>by rw [e,← h.tm d];exact hs.tm d
  nt:=by rw [← h.nt];exact hs.nt
  df:=hs.df
  bl:=fun id n r b hl=>by
   rw [← h.hp id] at hl
   have hb:=hs.bl id n r b hl
   refine⟨hb.wf,hb.size,?_,?_,hb.typ⟩ <;> rw [e]
   ·exact hb.lies
   ·exact hb.map
  sep:=fun id id' n r n' r' b' L L' h1 h2=>by rw [← h.hp] at h1 h2;exact hs.sep id id' n r n' r' b' L L' h1 h2
  dom:=fun id hid=>by rw [← h.key];exact hs.dom id hid
  fr:=hs.fr
  wo:=fun b hb=>hs.wo b (by
   rcases hb with hx | ⟨id,n,r,L,h1,h2,h3⟩
   ·exact .inl hx
   ·exact .inr ⟨id,n,r,L,by rw [h.hp];exact h1,h2,h3⟩)
  sz:=hs.sz,gl:=hs.gl,uo:=hs.uo,ug:=hs.ug
  su:=fun id n r b L h1=>by rw [← h.hp] at h1;exact hs.su id n r b L h1
  ini:=hs.ini
  im:=fun id hid=>by rw [← h.m];exact hs.im id hid
  sm:=hs.sm
  xk:=⟨hs.xk.l,fun b M id n r c L hb h1=>by rw [← h.hp] at h1;exact hs.xk.s b M id n r c L hb h1,hs.xk.u⟩ }
end
structure SrcOk (P:Program) (w:World) (W:Nat→Prop) (ρ:Rho) (u:Value) (ry:AV) (ny sz:Nat):Prop where
 leaf:ry.leafB=true
 size:ry.size=ny*sz
 len:∀ w1,(Builtin.lenOf u).run P w1=.ok ny w1
 bound:ny < 4611686018427387904
 read:0 < sz → ∀ n,n≤ny → ∃ cs:Array Value,(∀ w1,w1.heap=w.heap→(Builtin.firstCells sz n u).run P w1=.ok cs w1)∧cs.size=n*sz ∧ ∀ j,j < n*sz→Rep w W ρ (ry.cell j) (cs.getD j Go.undef)
theorem src_view(h:TysOk P V.T)(hs:Sim U V.G w0 W0 ρ s a w){e:Nat}{x:AV}{u:Value}{r:AV}{len sz:Nat}(hx:Rep w (Wr U ρ s.heap) ρ x u)(hv:view V s e x=some (r,len,sz)):
  SrcOk P w (Wr U ρ s.heap) ρ u r len sz:=by
 obtain⟨g1,g2,g3,g4,b,cap,rfl,g5,g6⟩:=view_cells h hs hx hv
 refine⟨g1,g2,fun w1=>rfl,g4,fun h0 n hn=>?_⟩
 by_cases hz:n*sz=0
 ·refine⟨#[],fun w1 _=>?_,by simp [hz],fun j hj=>by omega⟩
  unfold Builtin.firstCells
  cases b with
  | none=>rfl
  | some b=>simp only [hz];simp [loadCells,loadCellsFrom]
 ·have hle:n*sz≤len*sz:=Nat.mul_le_mul_right _ hn
  rcases g6 with g6 | ⟨blk,base,vals,rfl,g6,_⟩
  ·omega
  ·have hl:=fun (w1:World) (hw1:w1.heap=w.heap)=>run_loadCells (P:=P) w1 ⟨blk,base,none⟩ (n*sz) vals (fun j hj=>by
    rw [Addr.add_mk];rw [← (g6 j (by omega)).1];unfold World.cell?;rw [hw1])
   refine⟨_,hl,by simp,fun j hj=>?_⟩
   rw [show(((List.range (n*sz)).map vals).toArray).getD j Go.undef=vals j by simp [Array.getD_eq_getD_getElem?,hj]]
   exact(g6 j (by omega)).2
theorem src_str{W:Nat→Prop}{xs:List Int}{u:Value}(hx:Rep w W ρ (.str xs) u):SrcOk P w W ρ u (.rI .u8 xs) xs.length 1:=by
 cases hx with | str b hm=>
 have hl:(bytesOf b).length=b.size:=bytesOf_len b
 refine⟨rfl,by simp [AV.size],fun w1=>by rw [hl];rfl,by rw [hl];exact hm,fun _ n hn=>⟨_,fun _ _=>rfl,?_,fun j hj=>?_⟩⟩
 ·simp only [Array.size_map]
  have:(b.extract 0 n).size=min n b.size-0:=by simp [ByteArray.size_extract]
  have e:(b.extract 0 n).data.size=(b.extract 0 n).size:=rfl
  rw [e,this];omega
 ·have hj':j < b.size:=by omega
  have e:(b.extract 0 n).data=b.data.extract 0 n:=by simp
  rw [e]
  have hsz:b.data.size=b.size:=rfl
  simp only [Array.getD_eq_getD_getElem?,Array.getElem?_map,Array.getElem?_extract]
  rw [if_pos (by omega)]
  simp only [Nat.zero_add,Array.getElem?_eq_getElem (show j < b.data.size by omega),Option.map_some,Option.getD_some,AV.cell,bytesOf,List.getD_eq_getElem?_getD,List.getElem?_map,Array.getElem?_toList]
  refine .int .u8 _ ⟨?_,?_⟩
  ·simp [IntKind.min,IntKind.signed]
  ·have:=b.data[j].toNat_lt
   simp [IntKind.max,IntKind.signed,IntKind.bits];omega
theorem src_ok(h:TysOk P V.T)(hs:Sim U V.G w0 W0 ρ s a w){e:Nat}{x:AV}{u:Value}{r:AV}{len sz:Nat}(hx:Rep w (Wr U ρ s.heap) ρ x u)(hv:srcA V s e x=some (r,len,sz)):
  SrcOk P w (Wr U ρ s.heap) ρ u r len sz:=by
 unfold srcA at hv
 split at hv
 ·split at hv <;> try contradiction
  simp only [Option.some.injEq,Prod.mk.injEq] at hv
  obtain⟨rfl,rfl,rfl⟩:=hv
  exact src_str hx
 ·exact src_view h hs hx hv
theorem tyD_at{T:Tys}{tys:List Nat}{j:Nat}{d:TyD}(h:tyD T tys j=d)(hd:d≠.other):∃ t,tys[j]?=some t∧(T.at t).d=d:=by
 unfold tyD at h
 split at h
 ·rename_i t ht;exact⟨t,ht,h⟩
 ·exact absurd h.symm hd
theorem len_ok(h:TysOk P V.T)(hs:Sim U V.G w0 W0 ρ s a w){tys:Array Nat}{ty:Nat}{x:AV}{u:Value}(hx:Rep w (Wr U ρ s.heap) ρ x u){i:Nat}
  (ha:abuiltin V i .len tys.toList [x] s=some (true,av,s')) :
  s'=s ∧ ∃ v,(Builtin.len_ tys ty #[u]).run P w=.ok v w∧Rep w (Wr U ρ s.heap) ρ av v:=by
 have fin:∀ (t:Nat) (d:TypeDesc) (n:Nat),tys.toList[0]?=some t→P.underlying t=some d→n < 4611686018427387904 →
   (tys[0]?=some t→(Builtin.len_ tys ty #[u]).run P w=.ok (goInt n) w) → ∃ v,(Builtin.len_ tys ty #[u]).run P w=.ok v w∧Rep w (Wr U ρ s.heap) ρ (toI n) v:=by
  intro t d n h1 h2 h3 h4
  exact⟨goInt n,h4 (by simpa using h1),toI_rep n _ (by omega)⟩
 unfold abuiltin at ha
 dsimp only at ha
 split at ha <;> try contradiction
 ·rename_i xs hd
  obtain⟨t,ht,hd⟩:=tyD_at hd (by simp)
  simp only [Option.some.injEq,Prod.mk.injEq,true_and] at ha
  obtain⟨rfl,rfl⟩:=ha
  cases hx with | str b hm=>
  have:=fin t .string b.size ht ((h t).str hd) hm (fun k=>by simp [Builtin.len_,k,run_underlying' ((h t).str hd)])
  rw [bytesOf_len]
  exact⟨rfl,this⟩
 ·rename_i e hd
  obtain⟨t,ht,hd⟩:=tyD_at hd (by simp)
  simp only [Option.some.injEq,Prod.mk.injEq,true_and] at ha
  obtain⟨rfl,rfl⟩:=ha
  cases hx with | ns=>
  exact⟨rfl,fin t (.slice e) 0 ht ((h t).slice e hd) (by omega) (fun k=>by simp [Builtin.len_,k,run_underlying' ((h t).slice e hd)])⟩
 ·rename_i e r len sz hd
  obtain⟨t,ht,hd⟩:=tyD_at hd (by simp)
  simp only [Option.some.injEq,Prod.mk.injEq,true_and] at ha
  obtain⟨rfl,rfl⟩:=ha
  cases hx with
  | vs0 _ _ cap b hr hn hl=>rw [slen_zeroV hn hl];exact⟨rfl,fin t (.slice e) 0 ht ((h t).slice e hd) (by omega) (fun k=>by simp [Builtin.len_,k,run_underlying' ((h t).slice e hd)])⟩
  | vs _ _ _ l cap blk base vals hr h0 hn hp hk hcap hm hW hc hrep=>rw [slen_eqv hn hk];exact⟨rfl,fin t (.slice e) l ht ((h t).slice e hd) hm (fun k=>by simp [Builtin.len_,k,run_underlying' ((h t).slice e hd)])⟩
 ·rename_i e id len sz hd
  obtain⟨t,ht,hd⟩:=tyD_at hd (by simp)
  simp only [Option.map_eq_some_iff,Prod.mk.injEq,true_and] at ha
  obtain⟨n,ho,rfl,rfl⟩:=ha
  obtain⟨_,_,_,_,_,hh⟩:=olen_ok hs hx ho
  rcases hh with ⟨rfl,_,_,b,rfl⟩ | ⟨cap,L,_,rfl,_,_,_,_,_,hm⟩
  ·exact⟨rfl,fin t (.slice e) 0 ht ((h t).slice e hd) (by omega) (fun k=>by simp [Builtin.len_,k,run_underlying' ((h t).slice e hd)])⟩
  ·exact⟨rfl,fin t (.slice e) n ht ((h t).slice e hd) hm (fun k=>by simp [Builtin.len_,k,run_underlying' ((h t).slice e hd)])⟩
 ·rename_i e id b lim o len sz hd
  obtain⟨t,ht,hd⟩:=tyD_at hd (by simp)
  simp only [Option.some.injEq,Prod.mk.injEq,true_and] at ha
  obtain⟨rfl,rfl⟩:=ha
  cases hx with
  | sl0 _ _ _ _ _ b'=>exact⟨rfl,fin t (.slice e) 0 ht ((h t).slice e hd) (by omega) (fun k=>by simp [Builtin.len_,k,run_underlying' ((h t).slice e hd)])⟩
  | sl _ _ _ _ _ _ cap L hL h0 hx hb hcap hm=>exact⟨rfl,fin t (.slice e) len ht ((h t).slice e hd) hm (fun k=>by simp [Builtin.len_,k,run_underlying' ((h t).slice e hd)])⟩
 ·rename_i e n hd
  obtain⟨t,ht,hd⟩:=tyD_at hd (by simp)
  simp only [Option.some.injEq,Prod.mk.injEq,true_and] at ha
  obtain⟨rfl,rfl⟩:=ha
  cases hx with | lv _ cap a hm=>
  exact⟨rfl,fin t (.slice e) n ht ((h t).slice e hd) hm (fun k=>by simp [Builtin.len_,k,run_underlying' ((h t).slice e hd)])⟩
 ·rename_i kt et id hd
  obtain⟨t,ht,hd⟩:=tyD_at hd (by simp)
  split at ha <;> try contradiction
  rename_i n k kn v es b hl
  simp only [Option.some.injEq,Prod.mk.injEq,decide_eq_true_eq] at ha
  obtain⟨hm,rfl,rfl⟩:=ha
  cases hx with | mp _ L hL=>
  obtain⟨L',h1,h2⟩:=(hs.bl id n _ b hl).map k kn v es rfl
  rw [hL] at h1;cases h1
  obtain⟨ms,clock,g1,g2⟩:=h2.ex
  have hlen:∀ (ms:List MapEntry) (es:List (List Int×List Int)),MEnts w (Wr U ρ s.heap) ρ k kn v ms es→ms.length=es.length:=by
   intro ms
   induction ms with
   | nil=>intro es h;cases es with
    | nil=>rfl
    | cons=>exact h.elim
   | cons m ms ih=>intro es h;cases es with
    | nil=>exact h.elim
    | cons e es=>simp [ih es h.2]
  have hl2:ms.size=es.length:=by rw [← hlen _ _ g2];simp
  rw [← hl2] at hm ⊢
  exact⟨rfl,fin t (.map kt et) ms.size ht ((h t).map kt et hd) hm (fun k=>by simp [Builtin.len_,k,run_underlying' ((h t).map kt et hd),MapKept.run_getObj_map g1])⟩
 ·rename_i n e hd
  obtain⟨t,ht,hd⟩:=tyD_at hd (by simp)
  split at ha <;> try contradiction
  rename_i hn
  rw [Nat.blt_eq] at hn
  simp only [Option.some.injEq,Prod.mk.injEq,true_and] at ha
  obtain⟨rfl,rfl⟩:=ha
  exact⟨rfl,fin t (.array n e) n ht ((h t).arr n e hd) hn (fun k=>by simp [Builtin.len_,k,run_underlying' ((h t).arr n e hd)])⟩
 ·rename_i e hd
  obtain⟨t,ht,hd⟩:=tyD_at hd (by simp)
  split at ha <;> try contradiction
  rename_i n e' he
  split at ha <;> try contradiction
  rename_i hn
  rw [Nat.blt_eq] at hn
  simp only [Option.some.injEq,Prod.mk.injEq,true_and] at ha
  obtain⟨rfl,rfl⟩:=ha
  exact⟨rfl,fin t (.pointer e) n ht ((h t).ptr e hd) hn (fun k=>by simp [Builtin.len_,k,run_underlying' ((h t).ptr e hd),run_underlying' ((h e).arr n e' he)])⟩
theorem rsetN_nil:∀ (r:AV) (n b l o:Nat) (x r':AV),x.size=0→r.rsetN n b l o 1 0 0 x=some r'→r'=r:=by
 have put:∀ (r:AV) (j:Nat) (x r':AV),x.size=0→r.putpart j 0 x=some r'→r'=r:=by
  intro r j x r' hx hp
  unfold AV.putpart at hp
  split at hp <;> try contradiction
  ·split at hp <;> try contradiction
   injection hp with hp;subst hp
   simp only [AV.size,List.length_eq_zero_iff] at hx
   subst hx;simp
  ·rename_i ys
   injection hp with hp;subst hp
   have:ys=[]:=List.length_eq_zero_iff.1 (by simpa [AV.size] using hx)
   subst this;simp
  ·rename_i ys
   injection hp with hp;subst hp
   have:ys=[]:=List.length_eq_zero_iff.1 (by simpa [AV.size] using hx)
   subst this;simp
  ·split at hp <;> try contradiction
   injection hp with hp;subst hp
   simp only [AV.size,List.length_eq_zero_iff] at hx
   subst hx;simp
 intro r
 refine AV.rec (motive_1:=fun r=>∀ (n b l o:Nat) (x r':AV),x.size=0→r.rsetN n b l o 1 0 0 x=some r'→r'=r)
  (motive_2:=fun s=>∀ (b l o:Nat) (x:AV) (s':AVs),x.size=0→s.rsetNS b l o 1 0 0 x=some s'→s'=s)
  ?_ ?_ ?_ ?_ ?_ ?_ ?_ ?_ ?_ ?_ ?_ ?_ ?_ ?_ ?_ ?_ ?_ ?_ ?_ ?_ ?_ ?_ ?_ ?_ ?_ ?_ ?_ ?_ r
 case refine_5=>
  intro k xs n b l o x r' hx hr
  simp only [AV.rsetN,whole] at hr
  exact put _ _ _ _ hx hr
 case refine_6=>
  intro xs n b l o x r' hx hr
  simp only [AV.rsetN,whole] at hr
  exact put _ _ _ _ hx hr
 case refine_7=>
  intro xs n b l o x r' hx hr
  simp only [AV.rsetN,whole] at hr
  exact put _ _ _ _ hx hr
 case refine_8=>
  intro k xs n b l o x r' hx hr
  simp only [AV.rsetN,whole] at hr
  exact put _ _ _ _ hx hr
 case refine_10=>
  intro s ih n b l o x r' hx hr
  have e1:Nat.beq 1 0=false:=rfl
  simp only [AV.rsetN,e1,Bool.and_false,Bool.false_and,Option.map_eq_some_iff] at hr
  obtain⟨s',hs,rfl⟩:=hr
  rw [ih _ _ _ _ _ hx hs]
 case refine_11=>
  intro ks xs n b l o x r' hx hr
  simp only [AV.rsetN] at hr
  split at hr <;> try contradiction
  split at hr <;> contradiction
 case refine_27=>
  intro b l o x s' hx hr
  simp [AVs.rsetNS] at hr
 case refine_28=>
  intro n v t ih1 ih2 b l o x s' hx hr
  simp only [AVs.rsetNS] at hr
  split at hr
  ·split at hr <;> try contradiction
   simp only [Option.map_eq_some_iff] at hr
   obtain⟨v',hv,rfl⟩:=hr
   rw [ih1 _ _ _ _ _ _ hx hv]
  ·simp only [Option.map_eq_some_iff] at hr
   obtain⟨v',hv,rfl⟩:=hr
   rw [ih2 _ _ _ _ _ hx hv]
 all_goals (intros;rename_i h;simp [AV.rsetN] at h)
theorem acopy_ok(hs:Sim U V.G w0 W0 ρ s a w){id b lim o len ny:Nat}{ry:AV}{src:Value}{base:Option Addr}{cap:Nat}(hsrc:SrcOk P w (Wr U ρ s.heap) ρ src ry ny 1)
  (hd:(base=none∨True)∧len=0 ∨ ∃ L,ρ id=some (some L)∧o+len≤lim∧b+lim≤L.n∧base=some ⟨L.b,L.base+(b+o),none⟩)
  (ha:acopy s id b lim o len ry ny=some (true,av,s')) (hlen:len < 4611686018427387904) :
  ∃ cs w',(Builtin.firstCells 1 (Nat.min ny len) src).run P w=.ok cs w∧(match base with | some a=>storeCells a cs.toList | none=>pure ()).run P w=.ok () w' ∧
   Sim U V.G w0 W0 ρ s' a w'∧av=toI (Nat.min ny len):=by
 unfold acopy at ha
 split at ha <;> try contradiction
 rename_i n r hl
 split at ha <;> try contradiction
 rename_i part hpart
 split at ha <;> try contradiction
 rename_i r' hset
 simp only [Option.some.injEq,Prod.mk.injEq,true_and] at ha
 obtain⟨rfl,rfl⟩:=ha
 have hle:min ny len≤ny:=Nat.min_le_left _ _
 have hle2:min ny len≤len:=Nat.min_le_right _ _
 obtain⟨cs,c1,c2,c3⟩:=hsrc.read (by omega) (min ny len) hle
 replace c1:=c1 w rfl
 have hsz:=hsrc.size
 have hpt:=part_spec hpart (by rw [hsz];omega)
 have hb:=hs.bl _ _ _ _ hl
 by_cases hz:min ny len=0
 ·rw [hz] at c2 hset hpart
  have e1:cs = #[]:=by apply Array.eq_empty_of_size_eq_zero;omega
  subst e1
  have e2:=rsetN_nil r n b lim o part r' (part_size0 hpart) hset
  subst e2
  refine⟨#[],w,c1,?_,(hs.same hl).1,rfl⟩
  cases base <;> simp [storeCells]
 ·rcases hd with ⟨_,h0⟩ | ⟨L,hL,g1,g2,rfl⟩
  ·subst h0;simp at hz
  ·obtain⟨hw,hsz2,hLn,_⟩:=hs.cells hl hL
   have hw:=hw (by cases r <;> first | rfl | (simp [AV.rsetN] at hset))
   have hst:=rsetN_spec r n b lim o 1 0 (min ny len) part r' hw hsz2 (by simp) (by simp [ix];omega) (by omega) (by omega) hpt.wf hpt.size hset
   have hix:b+ix o 1 0=b+o:=by simp [ix]
   rw [hix] at hst
   obtain⟨w',q1,q2,_⟩:=hs.write (P:=P) (htag:=tag_rsetN hset) hl hL hst (.agg _ part cs hpt.wf hpt.size (by omega) fun j hj=>by
    rw [hpt.cells j hj,Nat.zero_add];exact c3 j (by omega)) (by omega) (by omega)
   exact⟨cs,w',c1,q1,q2,rfl⟩
theorem copy_ok(h:TysOk P V.T)(hs:Sim U V.G w0 W0 ρ s a w){tys:Array Nat}{ty:Nat}{x y:AV}{u v:Value}(hx:Rep w (Wr U ρ s.heap) ρ x u)(hy:Rep w (Wr U ρ s.heap) ρ y v){i:Nat}
  (ha:abuiltin V i .copy tys.toList [x,y] s=some (true,av,s')) :
  ∃ v' w',(Builtin.copy_ tys ty #[u,v]).run P w=.ok v' w'∧Sim U V.G w0 W0 ρ s' a w'∧Rep w' (Wr U ρ s'.heap) ρ av v':=by
 unfold abuiltin at ha
 dsimp only at ha
 split at ha <;> try contradiction
 rename_i e hd
 obtain⟨t,ht,hd⟩:=tyD_at hd (by simp)
 have ht':tys[0]?=some t:=by simpa using ht
 split at ha <;> try contradiction
 rename_i ry ny hv
 split at hv <;> try contradiction
 rename_i hsz
 rw [Nat.beq_eq] at hsz
 have hsrc:SrcOk P w (Wr U ρ s.heap) ρ v ry ny 1:=src_ok h hs hy hv
 have fin:∀ (base:Option Addr) (len cap id b lim o:Nat),u=.slice base len cap→len < 4611686018427387904 →
   ((base=none∨True)∧len=0 ∨ ∃ L,ρ id=some (some L)∧o+len≤lim∧b+lim≤L.n∧base=some ⟨L.b,L.base+(b+o),none⟩) →
   acopy s id b lim o len ry ny=some (true,av,s') → ∃ v' w',(Builtin.copy_ tys ty #[u,v]).run P w=.ok v' w'∧Sim U V.G w0 W0 ρ s' a w'∧Rep w' (Wr U ρ s'.heap) ρ av v':=by
  intro base len cap id b lim o hu hm hd' hc
  subst hu
  obtain⟨cs,w',c1,c2,c3,rfl⟩:=acopy_ok (P:=P) (cap:=cap) hs hsrc hd' hc hm
  refine⟨goInt (Nat.min ny len),w',?_,c3,toI_rep _ _ (by have:=Nat.min_le_right ny len;show((Nat.min ny len:Nat):Int)≤_;have e:Nat.min ny len=min ny len:=rfl;omega)⟩
  have h0:0 < (V.T.at e).sz:=by omega
  have rl:=hsrc.len w
  cases base with
  | none=>simp [Builtin.copy_,ht',run_underlying' ((h t).slice e hd),rl,run_sizeOf' h h0,hsz,c1] at c2 ⊢;exact c2
  | some a=>simp [Builtin.copy_,ht',run_underlying' ((h t).slice e hd),rl,run_sizeOf' h h0,hsz,c1] at c2 ⊢;simp [c2]
 split at ha <;> try contradiction
 ·rename_i id len0
  split at ha <;> try contradiction
  rename_i len ho
  obtain⟨n,r,bb,hl,hn,hh⟩:=olen_ok hs hx ho
  rcases hh with ⟨rfl,_,_,b,rfl⟩ | ⟨cap,L,hL,rfl,g1,g2,_,_,_,hm⟩
  ·exact fin b 0 0 id 0 0 0 rfl (by omega) (.inl ⟨.inr trivial,rfl⟩) ha
  ·exact fin _ len cap id 0 len 0 rfl hm (.inr ⟨L,hL,by omega,by omega,by simp⟩) ha
 ·rename_i id b lim o len
  cases hx with
  | sl0 _ _ _ _ _ b' _=>exact fin b' 0 0 id b lim o rfl (by omega) (.inl ⟨.inr trivial,rfl⟩) ha
  | sl _ _ _ _ _ _ cap L hL h0 hx hb hcap hm _ _=>exact fin _ len cap id b lim o (by rw [Nat.mul_one]) hm (.inr ⟨L,hL,by omega,hb,rfl⟩) ha
theorem clear_ok(h:TysOk P V.T)(hs:Sim U V.G w0 W0 ρ s a w){tys:Array Nat}{ty:Nat}{x:AV}{u:Value}(hx:Rep w (Wr U ρ s.heap) ρ x u){i:Nat}
  (ha:abuiltin V i .clear tys.toList [x] s=some (true,av,s')) :
  ∃ w',(Builtin.clear_ tys ty #[u]).run P w=.ok (.tuple #[]) w'∧Sim U V.G w0 W0 ρ s' a w'∧av=.tup .nil:=by
 unfold abuiltin at ha
 dsimp only at ha
 split at ha <;> try contradiction
 rename_i e id b lim o len hd
 obtain⟨t,ht,hd⟩:=tyD_at hd (by simp)
 have ht':tys[0]?=some t:=by simpa using ht
 split at ha <;> try contradiction
 rename_i z hsz hz
 rw [Nat.beq_eq] at hsz
 split at ha <;> try contradiction
 rename_i p0 v0 s1 hc
 simp only [Option.some.injEq,Prod.mk.injEq,true_and] at ha
 obtain⟨rfl,rfl⟩:=ha
 obtain⟨h0,hleaf,zv,z1,z2,z3⟩:=zeros_ok (P:=P) h hz w (Wr U ρ s.heap) ρ
 rw [hsz,Nat.mul_one] at z3
 unfold acopy at hc
 split at hc <;> try contradiction
 rename_i n r hl
 rw [Nat.min_self] at hc
 split at hc <;> try contradiction
 rename_i part hpart
 split at hc <;> try contradiction
 rename_i r' hset
 simp only [Option.some.injEq,Prod.mk.injEq] at hc
 obtain⟨_,_,rfl⟩:=hc
 have hzc:(Builtin.zeroCells zv.cells len)=(Array.range len).map (zv.cells[· % zv.cells.size]!):=by
  unfold Builtin.zeroCells;rw [z2,hsz,Nat.mul_one]
 have hu:=run_underlying' ((h t).slice e hd)
 by_cases hz0:len=0
 ·subst hz0
  cases z3 with | agg _ _ _ q1 q2 q3 q4=>
  have e2:=rsetN_nil r n b lim o part r' (part_size0 hpart) hset
  subst e2
  refine⟨w,?_,(hs.same hl).1,rfl⟩
  cases hx with
  | sl0 _ _ _ _ _ a0 _=>cases a0 <;> simp [Builtin.clear_,ht',hu (w:=w)]
  | sl=>simp [Builtin.clear_,ht',hu (w:=w)]
 ·cases hx with
  | sl0=>omega
  | sl _ _ _ _ _ _ cap L hL h00 hxx hb hcap hm _ _=>
   cases z3 with | agg _ _ _ q1 q2 q3 q4=>
   have hpt:=part_spec hpart (by omega)
   have hsz2:=(hs.bl _ _ _ _ hl).size
   obtain⟨hw,_,hLn,_⟩:=hs.cells hl hL
   have hw:=hw (by cases r <;> first | rfl | (simp [AV.rsetN] at hset))
   have hst:=rsetN_spec r n b lim o 1 0 len part r' hw hsz2 (by simp) (by simp [ix];omega) (by omega) (by omega) hpt.wf hpt.size hset
   have hix:b+ix o 1 0=b+o:=by simp [ix]
   rw [hix] at hst
   obtain⟨w',g1,g2,_⟩:=hs.write (P:=P) (htag:=tag_rsetN hset) hl hL hst (.agg _ part _ hpt.wf hpt.size q3 fun j hj=>by
    rw [hpt.cells j hj,Nat.zero_add];exact q4 j (by omega)) (by omega) (by omega)
   refine⟨w',?_,g2,rfl⟩
   rw [← hzc] at g1
   rw [Nat.mul_one]
   obtain⟨m,rfl⟩:∃ m,len=m+1:=⟨len-1,by omega⟩
   simp [Builtin.clear_,ht',hu (w:=w),z1,g1]
theorem minmax_ok{tys:Array Nat}{ty:Nat}{x y:AV}{u v:Value}{W:Nat→Prop}(hx:Rep w W ρ x u)(hy:Rep w W ρ y v){i:Nat}{b:Builtin}(hb:b=.min∨b=.max)
  (ha:abuiltin V i b tys.toList [x,y] s=some (true,av,s')) :
  s'=s ∧ ∃ v',((if b=.min then Builtin.min_ tys ty #[u,v] else Builtin.max_ tys ty #[u,v])).run P w=.ok v' w∧Rep w W ρ av v':=by
 rcases hb with rfl | rfl
 ·unfold abuiltin at ha
  cases hx <;> dsimp only at ha <;> try contradiction
  cases hy <;> dsimp only at ha <;> try contradiction
  rename_i k x h1 k' y h2
  split at ha <;> try contradiction
  rename_i hk
  rw [decide_eq_true_eq] at hk;subst hk
  simp only [Option.some.injEq,Prod.mk.injEq,true_and] at ha
  obtain⟨rfl,rfl⟩:=ha
  refine⟨rfl,.int k (if y < x then y else x),rfl,.int _ _ ?_⟩
  split <;> assumption
 ·unfold abuiltin at ha
  cases hx <;> dsimp only at ha <;> try contradiction
  cases hy <;> dsimp only at ha <;> try contradiction
  rename_i k x h1 k' y h2
  split at ha <;> try contradiction
  rename_i hk
  rw [decide_eq_true_eq] at hk;subst hk
  simp only [Option.some.injEq,Prod.mk.injEq,true_and] at ha
  obtain⟨rfl,rfl⟩:=ha
  refine⟨rfl,.int k (if y > x then y else x),rfl,.int _ _ ?_⟩
  split <;> assumption
end Go.Am
end