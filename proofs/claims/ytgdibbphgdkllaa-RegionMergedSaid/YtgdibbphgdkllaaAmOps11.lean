/- Part of a proof. -/
import Derived.Test.YtgdibbphgdkllaaAmOps10
import Derived.Laws.Append
set_option linter.unusedVariables false
set_option linter.unusedSimpArgs false
namespace Go.Am
open Go
variable {P : Program} {V : Env} {U : Oth} {w0 : World} {W0 : Nat → Prop} {o : Oper} {ρ ρ' : Rho} {s s' : St} {a : Act} {w w' : World} {av : AV}
theorem growBy_le:∀ (k n c:Nat),c < n→Builtin.growBy n k c≤n+(n+768) / 4
 | 0,n,c,h=>by simp only [Builtin.growBy];omega
 | k+1,n,c,h=>by
  simp only [Builtin.growBy]
  rw [if_neg (by omega)]
  by_cases h2:c+(c+768) / 4 < n
  ·exact growBy_le k n _ h2
  ·cases k with
   | zero=>simp only [Builtin.growBy];omega
   | succ k=>simp only [Builtin.growBy];rw [if_pos (by omega)];omega
theorem nextcap_le{need old:Nat}(h:old < need):Builtin.nextslicecap need old≤2*need+768:=by
 unfold Builtin.nextslicecap
 split
 ·omega
 ·split
  ·omega
  ·have:=growBy_le 4 need old h;omega
def NotInt(d:TypeDesc):Prop:=d=.string ∨ ∃ e,d=.slice e
theorem run_append_in{tys:Array Nat}{ty t t1 e:Nat}{d1:TypeDesc}(h0:tys[0]?=some t)(h1:tys[1]?=some t1)(ht:P.underlying t=some (.slice e))(hd:P.underlying t1=some d1)(hn:NotInt d1)
  {sz:Nat} (hsz:(sizeOf e).run P w=.ok sz w) {base:Option Addr} {sLen sCap ny:Nat} {v:Value} (hl:(Builtin.lenOf v).run P w=.ok ny w) (hle:sLen+ny≤sCap)
  {cs:Array Value} (hc:(Builtin.firstCells sz ny v).run P w=.ok cs w) (hst:(match base with | some a=>storeCells (a.add (sLen*sz)) cs.toList | none=>pure ()).run P w=.ok () w') :
  (Builtin.append_ tys ty #[.slice base sLen sCap,v]).run P w=.ok (.slice base (sLen+ny) sCap) w':=by
 rcases hn with rfl | ⟨e1,rfl⟩
 all_goals
  cases base with
  | none=>
   simp at hst;subst hst
   simp [Builtin.append_,h0,h1,run_underlying' ht,run_underlying' hd,hsz,hl,hc,hle]
  | some a=>
   simp at hst
   simp [Builtin.append_,h0,h1,run_underlying' ht,run_underlying' hd,hsz,hl,hc,hle,hst]
theorem run_append_out{tys:Array Nat}{ty t t1 e:Nat}{d1:TypeDesc}(h0:tys[0]?=some t)(h1:tys[1]?=some t1)(ht:P.underlying t=some (.slice e))(hd:P.underlying t1=some d1)(hn:NotInt d1)
  {i:TypeInfo} {z:Value} (hi:P.info? e=some i) (hz:i.zero=some z) (hzs:z.cells.size=i.size) (hb:i.bytes≤65536) {base:Option Addr} {sLen sCap ny:Nat} {v:Value} (hl:(Builtin.lenOf v).run P w=.ok ny w) (hle:sCap < sLen+ny) (hsm:sLen+ny < 1073741824)
  {old cs:Array Value} (ho:∀ w1,w1.heap=w.heap→(Builtin.firstCells i.size sLen (.slice base sLen sCap)).run P w1=.ok old w1) (hc:∀ w1,w1.heap=w.heap→(Builtin.firstCells i.size ny v).run P w1=.ok cs w1)
  (hos:old.size=sLen*i.size) (hcs:cs.size=ny*i.size) :
  ∃ cap w' rest,(Builtin.append_ tys ty #[.slice base sLen sCap,v]).run P w=.ok (.slice (some ⟨w.heap.size,0,none⟩) (sLen+ny) cap) w'∧WSame w w'∧w'.heap=w.heap.push (.cells (old++cs++rest) e (0,0))∧sLen+ny≤cap ∧
   (old++cs++rest).size=cap*i.size:=by
 have hf:¬ (sLen+ny≤sCap):=by omega
 have h63:¬ (9223372036854775807 < ((sLen:Int)+(ny:Int))):=by omega
 have hcapb:Builtin.nextslicecap (sLen+ny) sCap*i.bytes≤281474976710656:=by
  have h1:=Nat.mul_le_mul (nextcap_le hle) hb
  have h2:(2*(sLen+ny)+768)*65536≤281474976710656:=by generalize sLen+ny=n at hsm;omega
  exact Nat.le_trans h1 h2
 have h48:¬ (281474976710656 < Builtin.nextslicecap (sLen+ny) sCap*i.bytes):=by omega
 have hge:=grownCap_ge w (sLen+ny) sCap e
 refine⟨grownCap w (sLen+ny) sCap e,(w.drew).alloc (.cells (old++cs++Builtin.zeroCells z.cells (grownCap w (sLen+ny) sCap e-(sLen+ny))) e),Builtin.zeroCells z.cells (grownCap w (sLen+ny) sCap e-(sLen+ny)),?_,⟨rfl,rfl,rfl⟩,rfl,hge,?_⟩
 ·have ho':=ho w.drew rfl
  have hc':=hc w.drew rfl
  rcases hn with rfl | ⟨e1,rfl⟩
  all_goals simp [Builtin.append_,h0,h1,run_underlying' ht,run_underlying' hd,sizeOf,typeInfo,zeroValue,hi,hz,hl,hf,h63,h48,Question.forced,ho',hc',newRow,grownCap,-Nat.reduceMul,-Nat.reducePow]
 ·simp only [Array.size_append,hos,hcs,Builtin.zeroCells,Array.size_map,Array.size_range,hzs]
  rw [← Nat.add_mul,← Nat.add_mul]
  congr 1
  omega
theorem addEmpty_ok{r0:AV}(hr:r0.wf)(hz:r0.size=0){sz:Nat}:∀ (k id:Nat) {s s':St} {ρ:Rho} {vs:AVs},Sim U V.G w0 W0 ρ s a w→addEmpty r0 sz k id s=some (vs,s') →
  ∃ ρ',Sim U V.G w0 W0 ρ' s' a w∧s'.next=s.next∧(∀ x v,Rep w (Wr U ρ s.heap) ρ x v→Rep w (Wr U ρ' s'.heap) ρ' x v)∧vs.wfS∧vs.sizeS=k ∧ ∀ j,j < k→Rep w (Wr U ρ' s'.heap) ρ' (vs.cellS j) (.slice none 0 0)
 | 0,id,s,s',ρ,vs,hs,he=>by
  simp only [addEmpty,Option.some.injEq,Prod.mk.injEq] at he
  obtain⟨rfl,rfl⟩:=he
  exact⟨ρ,hs,rfl,fun _ _ h=>h,trivial,rfl,fun j hj=>by omega⟩
 | k+1,id,s,s',ρ,vs,hs,he=>by
  rw [addEmpty] at he
  split at he <;> try contradiction
  rename_i hkey
  split at he <;> try contradiction
  rename_i vs1 s1 h1
  simp only [Option.some.injEq,Prod.mk.injEq] at he
  obtain⟨rfl,rfl⟩:=he
  obtain⟨q1,q2⟩:=hs.newEmpty (id:=id) (r:=r0) hkey hr hz
  obtain⟨ρ',g1,g2,g3,g4,g5,g6⟩:=addEmpty_ok hr hz k (id+1) q1 h1
  refine⟨ρ',g1,g2,fun x v hx=>g3 x v (q2 x v hx),⟨rfl,rfl,g4⟩,by simp only [AVs.sizeS,AV.size,g5];omega,fun j hj=>?_⟩
  cases j with
  | zero=>
   rw [cellS_lt (by omega)]
   exact g3 _ _ (.own0 id sz none (Rho.set_same _ _ _))
  | succ j=>rw [cellS_ge (by omega)];exact g6 j (by omega)
theorem mkSlices_ok(h:TysOk P V.T)(hs:Sim U V.G w0 W0 ρ s a w){i e' n:Nat}{one pre:Bool}(ha:mkSlices V i e' n one pre s=some (true,av,s')):
  one=true∧n≤15∧pre=true ∧ ∃ s1 vs ρ1,Sim U V.G w0 W0 ρ1 s1 a w∧vs.wfS∧vs.sizeS=n∧(∀ j,j < n→Rep w (Wr U ρ1 s1.heap) ρ1 (vs.cellS j) (.slice none 0 0))∧newBlk s1 i n (.segs vs) true (fun id=>.own id 0 1)=some (true,av,s'):=by
 unfold mkSlices at ha
 split at ha <;> try contradiction
 rename_i hn
 rw [Bool.and_eq_true,Nat.ble_eq] at hn
 split at ha <;> try contradiction
 rename_i r0 hr0
 split at ha <;> try contradiction
 rename_i vs s1 h1
 obtain⟨_,g1,g2,_⟩:=h.zrow hr0
 obtain⟨ρ1,q1,q2,q3,q4,q5,q6⟩:=addEmpty_ok (wf_leaf g1) (by rw [g2];simp) n _ hs h1
 have hp:=(newBlk_spec ha).1
 subst hp
 exact⟨hn.1,hn.2,rfl,s1,vs,ρ1,q1,q4,q5,q6,ha⟩
theorem makeSlice_ok(h:TysOk P V.T)(hs:Sim U V.G w0 W0 ρ s a w){t:Nat}{x y:Operand}(ho:o.op=.makeSlice t x y){i:Nat}(ha:aop V i o s=some (true,av,s')):OpOk U P V w0 W0 o a w av s':=by
 have hx:=hs.ev x
 have hy:=hs.ev y
 simp only [aop,ho] at ha
 split at ha <;> try contradiction
 rename_i e k n k' m he hn hm
 have ex:=intOf_rep hx hn
 have ey:=intOf_rep hy hm
 split at ha
 ·rename_i e' he'
  obtain⟨hone,hn15,hpre,s1,vs,ρ1,p1,p2,p3,p4,p5⟩:=mkSlices_ok h hs ha
  rw [Nat.beq_eq] at hone
  simp only [Bool.and_eq_true,decide_eq_true_eq] at hpre
  obtain⟨⟨g0,g1⟩,g2⟩:=hpre
  obtain⟨_,hk,rfl,rfl⟩:=newBlk_spec p5
  have hz:zvar V.T 16 e=some (.one .ns):=by simp [zvar,he']
  obtain⟨q0,_,_,inf,zv,i1,i2,i3,i4⟩:=(h e).zero _ hz
  have hb:=(h e).bytes q0 inf i1
  have w1:IntKind.i64.wrap n=n:=by unfold IntKind.wrap;simp only [IntKind.signed,IntKind.bits];simp;omega
  have w2:IntKind.i64.wrap m=m:=by unfold IntKind.wrap;simp only [IntKind.signed,IntKind.bits];simp;omega
  have hbm:(inf.bytes:Int)*m≤65536*1073741824:=Int.mul_le_mul (by omega) (by omega) (by omega) (by omega)
  have hbn:(inf.bytes:Int)*n≤65536*1073741824:=Int.mul_le_mul (by omega) (by omega) (by omega) (by omega)
  have hroom:¬ (m.toNat*inf.bytes > roomBytes):=by
   have:m.toNat*inf.bytes≤1073741824*65536:=Nat.mul_le_mul (by omega) (by omega)
   unfold roomBytes;omega
  obtain⟨inf',j1,j2⟩:=(h e).size q0
  rw [i1] at j1;cases j1
  rw [hone] at i3 i4 j2
  have hzc:zv.cells.getD 0 Go.undef=.slice none 0 0:=by
   have:=i4 0 (by omega)
   simp only [AV.cell,concZ,Option.some.injEq] at this
   exact this.symm
  let c:Array Value:=madeCells zv.cells (m.toNat*(V.T.at e).sz)
  have hcs:c.size=m.toNat*(V.T.at e).sz:=by simp [c,madeCells]
  have hcell:∀ j,j < m.toNat→c.getD j Go.undef=.slice none 0 0:=fun j hj=>by
   have e1:j%1 < zv.cells.size:=by rw [i3];omega
   rw [← hzc]
   simp only [c,madeCells]
   rw [Array.getD_eq_getD_getElem?,Array.getElem?_map,Array.getElem?_range,if_pos (by rw [hone];omega)]
   simp only [Option.map_some,Option.getD_some]
   rw [i3,getElem!_pos zv.cells _ e1,Array.getD_eq_getD_getElem?]
   rw [Array.getElem?_eq_getElem (show 0 < zv.cells.size by omega)]
   simp [Nat.mod_one]
  obtain⟨ρ',r1,r2⟩:=newOwn_ok (htag:=no_tag (newBlk_tag p5)) (t:=e) (l:=n.toNat) (sz:=1) (cap:=m.toNat) (c:=c) (fr:=(0,0)) p1 (same_alloc w _) (heap_alloc w _) hk (r:=.segs vs) (by simpa only [AV.wf] using p2) (by simp only [AV.size];omega) (fun j hj=>by
    rw [hcell j (by omega)];simp only [AV.cell];exact p4 j (by omega)) (by omega) (by rw [hcs,hone];exact Nat.le_refl _) (by omega) (by omega) (fun j _ hh=>by omega) (n:=n.toNat) (by omega)
  refine ok_value (v:=.slice (some ⟨w.heap.size,0,none⟩) n.toNat m.toNat) ?_ r1 r2
  simp only [execOp,ho]
  refine run_v ?_
  rw [ex,ey]
  have:=run_make (P:=P) w t e inf zv ((h t).slice e he) i1 i2 k k' n m g0 g1 (by omega) (by omega)
  rw [j2] at this
  simpa only [c,hone] using this
 split at ha <;> try contradiction
 rename_i r hz
 obtain⟨hpre,hk,rfl,rfl⟩:=newBlk_spec ha
 simp only [Bool.and_eq_true,decide_eq_true_eq] at hpre
 obtain⟨⟨g0,g1⟩,g2⟩:=hpre
 obtain⟨q0,q1,_⟩:=h.zrow hz
 have hsz:=(h.zrow hz).2.2.1
 obtain⟨c0,_,_,inf,zv,i1,j2,i2,i3,i4⟩:=h.zrow hz
 have hb:=(h e).bytes q0 inf i1
 have w1:IntKind.i64.wrap n=n:=by unfold IntKind.wrap;simp only [IntKind.signed,IntKind.bits];simp;omega
 have w2:IntKind.i64.wrap m=m:=by unfold IntKind.wrap;simp only [IntKind.signed,IntKind.bits];simp;omega
 have hbm:(inf.bytes:Int)*m≤65536*1073741824:=Int.mul_le_mul (by omega) (by omega) (by omega) (by omega)
 have hbn:(inf.bytes:Int)*n≤65536*1073741824:=Int.mul_le_mul (by omega) (by omega) (by omega) (by omega)
 have hroom:¬ (m.toNat*inf.bytes > roomBytes):=by
  have:m.toNat*inf.bytes≤1073741824*65536:=Nat.mul_le_mul (by omega) (by omega)
  unfold roomBytes;omega
 have hzr:=run_zeroValue' (P:=P) i1 i2 w
 let c:Array Value:=madeCells zv.cells (m.toNat*(V.T.at e).sz)
 have hcs:c.size=m.toNat*(V.T.at e).sz:=by simp [c,madeCells]
 have hcell:∀ j,j < m.toNat*(V.T.at e).sz→c.getD j Go.undef=zv.cells.getD (j%(V.T.at e).sz) Go.undef:=fun j hj=>by
  have e1:j%(V.T.at e).sz < zv.cells.size:=by rw [i3];exact Nat.mod_lt _ c0
  simp only [c,madeCells]
  rw [Array.getD_eq_getD_getElem?,Array.getElem?_map,Array.getElem?_range,if_pos hj]
  simp only [Option.map_some,Option.getD_some]
  rw [i3,getElem!_pos zv.cells _ e1,Array.getD_eq_getD_getElem?,Array.getElem?_eq_getElem e1];rfl
 have hle:n.toNat*(V.T.at e).sz≤m.toNat*(V.T.at e).sz:=Nat.mul_le_mul_right _ (by omega)
 obtain⟨ρ',p1,p2⟩:=newOwn_ok (htag:=no_tag (leaf_tag q1)) (t:=e) (cap:=m.toNat) (c:=c) (fr:=(0,0)) hs (same_alloc w _) (heap_alloc w _) hk (wf_leaf q1) hsz (fun j hj=>by
   rw [hcell j (by omega)];exact i4 j hj _ _ _) q0 (by rw [hcs];exact Nat.le_refl _) (by omega) (by omega) (fun j _ hh=>by omega) (bsz_eq hsz)
 refine ok_value (v:=.slice (some ⟨w.heap.size,0,none⟩) n.toNat m.toNat) ?_ p1 p2
 simp only [execOp,ho]
 refine run_v ?_
 rw [ex,ey]
 have:=run_make (P:=P) w t e inf zv ((h t).slice e he) i1 i2 k k' n m g0 g1 (by omega) (by omega)
 rw [j2] at this
 exact this
theorem Sim.grow(h:Sim U V.G w0 W0 ρ s a w){id id' n n':Nat}{r r':AV}{L:Loc}{w':World}(hl:lkH id s.heap=.cells n r true)(hL:ρ id=some (some L))(hsm:WSame w w')(hid:hasKey id' (s.setH id .gone).heap=false)
  (hw':r'.wf) (hs:r'.size=n') (hsz:w'.heap.size=w.heap.size) (hother:∀ b,b≠L.b→w'.heap[b]?=w.heap[b]?) (hm:Mine w' { L with n:=n' })
  (hc:∀ j,j < n' → ∃ v,w'.cell? ⟨L.b,L.base+j,none⟩=some v∧Rep w (Wr U ρ s.heap) ρ (r'.cell j) v) (htag:∀ t,r'.tag=some t→r.tag=some t∧512≤t) :
  Sim U V.G w0 W0 (ρ.set id' (some { L with n:=n' })) ((s.setH id .gone).setH id' (.cells n' r' true)) a w' ∧
  (∀ x v,Rep w (Wr U ρ s.heap) ρ x v→Rep w' (Wr U (ρ.set id' (some { L with n:=n' })) ((s.setH id .gone).setH id' (.cells n' r' true)).heap) (ρ.set id' (some { L with n:=n' })) x v):=by
 have hk:hasKey id' s.heap=false∧id'≠id:=by
  simp only [St.setH] at hid;rw [hasKey_put] at hid
  simp only [Bool.or_eq_false_iff,decide_eq_false_iff_not] at hid
  exact⟨hid.2,hid.1⟩
 have hne:ρ id'=none:=by
  cases hh:ρ id' with
  | none=>rfl
  | some x=>have:=h.dom id' (by rw [hh];simp);rw [hk.1] at this;cases this
 have hWL:WrO ρ s.heap L.b:=.inr ⟨id,n,r,L,hl,hL,rfl⟩
 have hlt:=h.loc_lt hl hL
 have hgone:∀ i,lkH i (s.setH id .gone).heap=if i=id then .gone else lkH i s.heap:=fun i=>lkH_put
 have hρ:∀ i x,ρ i=some x→(ρ.set id' (some { L with n:=n' })) i=some x:=fun i x hx=>by
  rw [Rho.set_other];exact hx
  rintro rfl;rw [hne] at hx;cases hx
 have hfr:∀ b,b < w.heap.size→¬ WrO ρ s.heap b→w'.heap[b]?=w.heap[b]?:=fun b _ hb=>hother b fun e=>hb (e▸hWL)
 have wo:∀ b,WrO (ρ.set id' (some { L with n:=n' })) ((id',.cells n' r' true) :: (id,.gone) :: s.heap) b→WrO ρ s.heap b∨w.heap.size≤b:=by
  rintro b (hx | ⟨i,n1,r1,L1,h1,h2,h3⟩)
  ·exact .inl (.inl hx)
  rw [lkH_put] at h1
  by_cases hi:i=id'
  ·subst hi;rw [Rho.set_same] at h2;cases h2;exact .inl (h3▸hWL)
  ·rw [if_neg hi,lkH_put] at h1;rw [Rho.set_other _ _ hi] at h2
   split at h1
   ·cases h1
   ·exact .inl (.inr ⟨i,n1,r1,L1,h1,h2,h3⟩)
 refine⟨h.step hfr wo hρ (by omega) hsm ?_ ?_ ?_ ?_ (h.xk.step (by omega) (fun _ _ h=>h) fun i n1 r1 c1 L1 h1 h2=>?_),fun x v hx=>hx.step hfr wo hρ⟩
 ·intro i n1 r1 b hl1
  rw [lkH_put] at hl1
  by_cases hi:i=id'
  ·subst hi
   rw [if_pos rfl] at hl1;cases hl1
   have hM:=wf_isM hw'
   refine⟨fun _=>hw',hs,.inr ⟨_,Rho.set_same _ _ _,rfl,fun j hj=>?_,fun _ _=>hm,by simp only;omega⟩,fun _ _ _ _ e=>absurd e (isM_no hM),fun t ht=>by
    rcases(h.bl id n r true hl).typ t (htag t ht).1 with h0 | ⟨L0,h1,h2⟩
    ·rw [hL] at h0;cases h0
    ·rw [hL] at h1;cases h1;exact .inr ⟨_,Rho.set_same _ _ _,h2.1,fun h=>by have:=(htag t ht).2;omega⟩⟩
   obtain⟨v,g1,g2⟩:=hc j hj
   exact⟨v,g1,g2.step hfr wo hρ⟩
  ·rw [if_neg hi,hgone] at hl1
   split at hl1
   ·cases hl1
   ·rename_i hi2
    refine(h.bl i n1 r1 b hl1).keep hfr wo hρ (by omega) (fun L' hL' _=>hother _ fun e=>hi2 ?_) (fun L' _ c hc=>⟨hother c fun e=>h.xk.s c _ id n r true L hc hl hL e.symm,rfl⟩)
    exact(h.sep id i n r n1 r1 b L L' hl hl1 hL hL' e.symm).symm
 ·intro i i' n1 r1 n2 r2 b2 L1 L2 h1 h2 h3 h4 h5
  rw [lkH_put] at h1 h2
  by_cases hi:i=id' <;> by_cases hi':i'=id'
  ·rw [hi,hi']
  ·subst hi
   rw [Rho.set_same] at h3;rw [Rho.set_other _ _ hi'] at h4;cases h3
   rw [if_neg hi',hgone] at h2
   split at h2
   ·cases h2
   ·rename_i hi2
    exact absurd (h.sep id i' n r _ _ _ L L2 hl h2 hL h4 h5).symm hi2
  ·subst hi'
   rw [Rho.set_same] at h4;rw [Rho.set_other _ _ hi] at h3;cases h4
   rw [if_neg hi,hgone] at h1
   split at h1
   ·cases h1
   ·rename_i hi2
    exact absurd (h.sep i id _ _ n r true L1 L h1 hl h3 hL h5) hi2
  ·rw [Rho.set_other _ _ hi] at h3;rw [Rho.set_other _ _ hi'] at h4
   rw [if_neg hi,hgone] at h1;rw [if_neg hi',hgone] at h2
   split at h1 <;> try contradiction
   split at h2 <;> try contradiction
   exact h.sep i i' _ _ _ _ _ L1 L2 h1 h2 h3 h4 h5
 ·intro i hi
  rw [hasKey_put,show hasKey i (s.setH id .gone).heap=(decide (i=id) || hasKey i s.heap) from hasKey_put]
  by_cases he:i=id'
  ·simp [he]
  ·rw [Rho.set_other _ _ he] at hi;simp [h.dom i hi]
 ·intro i n1 r1 b1 L1 h1 h2
  rw [lkH_put] at h1
  by_cases hi:i=id'
  ·subst hi
   rw [Rho.set_same] at h2;cases h2
   exact h.su id n r true L hl hL
  ·rw [Rho.set_other _ _ hi] at h2
   rw [if_neg hi,hgone] at h1
   split at h1 <;> try contradiction
   exact h.su i n1 r1 b1 L1 h1 h2
 ·rw [lkH_put] at h1
  by_cases hi:i=id'
  ·subst hi
   rw [Rho.set_same] at h2;cases h2
   exact .inl ⟨id,n,r,true,L,hl,hL,rfl⟩
  ·rw [Rho.set_other _ _ hi] at h2
   rw [if_neg hi,hgone] at h1
   split at h1 <;> try contradiction
   exact .inl ⟨i,n1,r1,c1,L1,h1,h2,rfl⟩
theorem Sim.garbage(h:Sim U V.G w0 W0 ρ s a w){c:Array Value}{t:TypeId}{fr:Nat×Nat}{w':World}(hsm:WSame w w')(hw':w'.heap=w.heap.push (.cells c t fr)):
  Sim U V.G w0 W0 ρ s a w'∧(∀ x v,Rep w (Wr U ρ s.heap) ρ x v→Rep w' (Wr U ρ s.heap) ρ x v)∧¬ Wr U ρ s.heap w.heap.size:=by
 have hold:∀ b,b < w.heap.size→w'.heap[b]?=w.heap[b]?:=fun b hb=>by
  rw [hw',Array.getElem?_push,if_neg (by omega)]
 have hsz:w.heap.size≤w'.heap.size:=by rw [hw'];simp
 refine⟨?_,fun x v hx=>hx.step (fun b hb _=>hold b hb) (fun b hb=>.inl hb) (fun _ _ h=>h),?_⟩
 ·exact h.step (H':=s.heap) (ρ':=ρ) (fun b hb _=>hold b hb) (fun b hb=>.inl hb) (fun _ _ h=>h) hsz hsm
   (fun id n r b hl=>(h.bl id n r b hl).keep (fun b hb _=>hold b hb) (fun b hb=>.inl hb) (fun _ _ h=>h) hsz (fun L _ hlt=>hold _ hlt) (fun L _ c hc=>⟨hold c (h.xk.l _ _ hc),rfl⟩))
   h.sep h.dom h.su (h.xk.step hsz (fun _ _ h=>h) fun id n r c L h1 h2=>.inl ⟨id,n,r,c,L,h1,h2,rfl⟩)
 ·rintro(hU | ⟨M,hx⟩ | ⟨id,n,r,L,h1,h2,h3⟩)
  ·have:=(h.uo _ (U.sub _ hU)).1
   have:=h.sz
   omega
  ·have:=h.xk.l _ _ hx
   omega
  ·have:=h.loc_lt h1 h2
   omega
theorem app_leaf{rx ry r:AV}(h:rx.app ry=some r):r.leafB=true:=by
 unfold AV.app at h
 split at h <;> first | contradiction | (injection h with h;subst h;rfl) | (split at h <;> first | contradiction | (injection h with h;subst h;rfl))
theorem run_asInt'(k:IntKind)(n:Int)(w:World):(asInt (.int k n)).run P w=.ok n w:=by simp [asInt,asIntOf]
theorem run_append_made{tys:Array Nat}{ty t t1 e:Nat}{kk k:IntKind}(h0:tys[0]?=some t)(h1:tys[1]?=some t1)(ht:P.underlying t=some (.slice e))(hd:P.underlying t1=some (.int kk))
  {i:TypeInfo} {z:Value} (hi:P.info? e=some i) (hz:i.zero=some z) (hzs:z.cells.size=i.size) (hsz:0 < i.size) (hb:i.bytes≤65536) {n:Int} (g0:0 < n) (g1:n < 1073741824) :
  ∃ cap w' c,(Builtin.append_ tys ty #[.slice none 0 0,.int k n]).run P w=.ok (.slice (some ⟨w.heap.size,0,none⟩) n.toNat cap) w'∧WSame w w'∧w'.heap=w.heap.push (.cells c e (0,0))∧n.toNat≤cap∧c.size=cap*i.size ∧
   ∀ j,j < n.toNat*i.size→c.getD j Go.undef=z.cells.getD (j%i.size) Go.undef:=by
 have w1:IntKind.i64.wrap n=n:=by unfold IntKind.wrap;simp only [IntKind.signed,IntKind.bits];simp;omega
 have en:(n.toNat:Int)=n:=Int.toNat_of_nonneg (by omega)
 have hf:¬ (n≤0):=by omega
 have h63b:¬ (9223372036854775807 < max n 0):=by omega
 have hneg:¬ (n < 0):=by omega
 have hm:n*(i.bytes:Int)≤1073741824*65536:=Int.mul_le_mul (by omega) (by omega) (by omega) (by omega)
 have h48a:¬ (281474976710656 < n*(i.bytes:Int)):=by omega
 have h63:¬ (9223372036854775807 < n):=by omega
 have hne:n.toNat*i.size≠0:=by
  have:=Nat.mul_pos (show 0 < n.toNat by omega) hsz;omega
 have hnz:¬ (n.toNat=0∨i.size=0):=by omega
 have hcapb:Builtin.nextslicecap n.toNat 0*i.bytes≤281474976710656:=by
  have h1:=Nat.mul_le_mul (nextcap_le (old:=0) (need:=n.toNat) (by omega)) hb
  have h2:(2*n.toNat+768)*65536≤281474976710656:=by omega
  exact Nat.le_trans h1 h2
 have h48:¬ (281474976710656 < Builtin.nextslicecap n.toNat 0*i.bytes):=by omega
 have hge:=grownCap_ge w n.toNat 0 e
 refine⟨grownCap w n.toNat 0 e,(w.drew).alloc (.cells (Builtin.zeroCells z.cells n.toNat++Builtin.zeroCells z.cells (grownCap w n.toNat 0 e-n.toNat)) e),_,?_,⟨rfl,rfl,rfl⟩,rfl,hge,?_,?_⟩
 ·simp [Builtin.append_,h0,h1,run_underlying' ht,run_underlying' hd,sizeOf,typeInfo,zeroValue,hi,hz,run_asInt',w1,hneg,h48a,hf,h63b,h48,hne,Question.forced,Builtin.firstCells,newRow,grownCap,-Nat.reduceMul,-Nat.reducePow]
 ·simp only [Array.size_append,Builtin.zeroCells,Array.size_map,Array.size_range,hzs]
  rw [← Nat.add_mul]
  congr 1
  omega
 ·intro j hj
  have e1:j%i.size < z.cells.size:=by rw [hzs];exact Nat.mod_lt _ hsz
  have hlt:j < (Builtin.zeroCells z.cells n.toNat).size:=by simp only [Builtin.zeroCells,Array.size_map,Array.size_range,hzs];exact hj
  rw [Array.getD_eq_getD_getElem?,Array.getElem?_append,if_pos hlt]
  simp only [Builtin.zeroCells]
  rw [Array.getElem?_map,Array.getElem?_range,if_pos (by rw [hzs];exact hj)]
  simp only [Option.map_some,Option.getD_some]
  rw [hzs,getElem!_pos z.cells _ e1,Array.getD_eq_getD_getElem?,Array.getElem?_eq_getElem e1];rfl
theorem catS_spec:∀ (a b:AVs),a.wfS→b.wfS→(a.cat b).wfS∧(a.cat b).sizeS=a.sizeS+b.sizeS∧(∀ k,k < a.sizeS→(a.cat b).cellS k=a.cellS k) ∧ ∀ k,(a.cat b).cellS (a.sizeS+k)=b.cellS k
 | .nil,b,_,hb=>⟨hb,by simp [AVs.cat,AVs.sizeS],fun k hk=>by simp [AVs.sizeS] at hk,fun k=>by simp [AVs.cat,AVs.sizeS]⟩
 | .cons n v t,b,ha,hb=>by
  obtain⟨h1,h2,h3⟩:=ha
  obtain⟨g1,g2,g3,g4⟩:=catS_spec t b h3 hb
  refine⟨⟨h1,h2,g1⟩,by simp only [AVs.cat,AVs.sizeS,g2];omega,fun k hk=>?_,fun k=>?_⟩
  ·simp only [AVs.sizeS] at hk
   simp only [AVs.cat]
   by_cases hlt:k < n
   ·rw [cellS_lt hlt,cellS_lt hlt]
   ·rw [cellS_ge (by omega),cellS_ge (by omega)];exact g3 _ (by omega)
  ·simp only [AVs.cat,AVs.sizeS]
   rw [cellS_ge (by omega),show v.size+t.sizeS+k-n=t.sizeS+k by omega];exact g4 k
theorem cat_apps{a b:AVs}(ha:(AV.segs a).wf)(hb:(AV.segs b).wf):Apps (.segs a) (.segs b) (.segs (a.cat b)):=by
 obtain⟨g1,g2,g3,g4⟩:=catS_spec a b (by simpa only [AV.wf] using ha) (by simpa only [AV.wf] using hb)
 exact⟨by simpa only [AV.wf] using g1,by simpa only [AV.size] using g2,fun k hk=>by simp only [AV.size] at hk;simpa only [AV.cell] using g3 k hk,fun k _=>by simpa only [AV.cell,AV.size] using g4 k⟩
theorem appOwn_ok(h:TysOk P V.T)(hs:Sim U V.G w0 W0 ρ s a w){tys:Array Nat}{ty t t1 e:Nat}{d1:TypeDesc}(ht:tys[0]?=some t)(ht1:tys[1]?=some t1)(ht':P.underlying t=some (.slice e))(hd1:P.underlying t1=some d1)(hn1:NotInt d1)
  {x y:AV} {u v:Value} (hx:Rep w (Wr U ρ s.heap) ρ x u) (hy:Rep w (Wr U ρ s.heap) ρ y v) {i:Nat}
  (ha:appOwn V s i e x y=some (true,av,s')) :
  ∃ v' w' ρ',(Builtin.append_ tys ty #[u,v]).run P w=.ok v' w'∧Sim U V.G w0 W0 ρ' s' a w'∧Rep w' (Wr U ρ' s'.heap) ρ' av v':=by
 unfold appOwn at ha
 split at ha <;> try contradiction
 rename_i id len id2 len2
 split at ha <;> try contradiction
 rename_i xs n ys n2 z0 hl hl2 hz0 hsz
 rw [Nat.beq_eq] at hsz
 split at ha <;> try contradiction
 rename_i hpos
 rw [Bool.and_eq_true,Nat.blt_eq,Nat.blt_eq] at hpos
 have htag:=newBlk_tag ha
 obtain⟨hp,hk,rfl,rfl⟩:=newBlk_spec ha
 rw [decide_eq_true_eq] at hp
 obtain⟨_,_,_,inf,z,g3,g5,g6,_⟩:=(h e).zero _ hz0
 have h0:0 < (V.T.at e).sz:=by omega
 obtain⟨inf',j1,j2⟩:=(h e).size h0
 rw [g3] at j1;cases j1
 have g4:inf.size=1:=by omega
 have hbx:=hs.bl id _ (.segs xs) _ hl
 have hby:=hs.bl id2 _ (.segs ys) _ hl2
 have hwx:=hbx.wf rfl
 have hwy:=hby.wf rfl
 have hA:=cat_apps hwx hwy
 obtain⟨f1,f2⟩:=hs.weaken (id:=id) (b':=.gone) (.inl rfl)
 have hxs:(AV.segs xs).size=xs.sizeS:=by simp only [AV.size]
 have hys:(AV.segs ys).size=ys.sizeS:=by simp only [AV.size]
 have hrz:(AV.segs (xs.cat ys)).size=(xs.cat ys).sizeS:=by simp only [AV.size]
 cases hx with
 | own0 _ _ b hL=>
  exfalso
  rcases hbx.lies with ⟨_,h2⟩ | ⟨L,h1,_⟩
  ·have:=hbx.size;rw [h2] at this;omega
  ·rw [hL] at h1;cases h1
 | own _ _ _ l cap L hL hn hkl hcap hS h00 hm=>
 cases hy with
 | own0 _ _ b hL2=>
  exfalso
  rcases hby.lies with ⟨_,h2⟩ | ⟨L,h1,_⟩
  ·have:=hby.size;rw [h2] at this;omega
  ·rw [hL2] at h1;cases h1
 | own _ _ _ ny cap2 L2 hL2 hny hkl2 hcap2 hS2 h002 hm2=>
 obtain⟨hw,hsx,hLn,vals,hv⟩:=hs.cells hl hL
 obtain⟨hw2,hsy,hLn2,vals2,hv2⟩:=hs.cells hl2 hL2
 have hsz':(AV.segs xs).size=l:=by omega
 have hszy:(AV.segs ys).size=ny:=by omega
 have hrs:(AV.segs (xs.cat ys)).size=l+ny:=by rw [hA.size,hsz',hszy]
 have hp':l+ny < 1073741824:=by omega
 have hrz':(xs.cat ys).sizeS=(l+ny)*1:=by omega
 have c1:∀ w1:World,w1.heap=w.heap→(Builtin.firstCells 1 ny (.slice (some ⟨L2.b,L2.base,none⟩) ny cap2)).run P w1=.ok (((List.range (ny*1)).map vals2).toArray) w1:=fun w1 hw1=>
  run_loadCells (P:=P) w1 ⟨L2.b,L2.base,none⟩ (ny*1) vals2 (fun j hj=>by
   rw [Addr.add_mk,← (hv2 j (by omega)).1];unfold World.cell?;rw [hw1])
 have c3:∀ j,j < ny→Rep w (Wr U ρ s.heap) ρ ((AV.segs ys).cell j) (vals2 j):=fun j hj=>(hv2 j (by omega)).2
 have hlen:∀ w1:World,(Builtin.lenOf (.slice (some ⟨L2.b,L2.base,none⟩) ny cap2)).run P w1=.ok ny w1:=fun w1=>rfl
 have hso:=fun w1=>run_sizeOf' h h0 w1
 rw [hsz] at hso
 generalize hcs:((List.range (ny*1)).map vals2).toArray=cs at c1
 have c2:cs.size=ny:=by rw [← hcs];simp
 have c4:∀ j,j < ny→cs.getD j Go.undef=vals2 j:=fun j hj=>by rw [← hcs];simp [Array.getD_eq_getD_getElem?,hj]
 by_cases hroom:l+ny≤cap
 ·have hM:Mine w L:=by
   rcases hbx.lies with ⟨h1,_⟩ | ⟨L',h1,_,_,h4,_⟩
   ·rw [h1] at hL;cases hL
   ·rw [h1] at hL;cases hL;exact h4 rfl rfl
  obtain⟨c,t',fr,m1,m2,m3,m4⟩:=hM
  obtain⟨w',c',q1,qs,q2,q3,q4,q5,q6⟩:=run_storeCells_mine (P:=P) L.b t' fr (L.base+l) cs.toList 0 c w m1 (by simp;omega) (fun j hj=>m4 j (by omega)) (fun v hv=>by
   obtain⟨j,hj,rfl⟩:=List.mem_iff_getElem.1 hv
   have hj':j < ny:=by simpa [c2] using hj
   have e1:cs.getD j Go.undef=cs.toList[j]:=by simp [Array.getD_eq_getD_getElem?,show j < cs.size by omega]
   have:=(c3 j hj').one (cell_scal _ j hwy (by omega))
   rw [← c4 j hj',e1] at this
   exact this.2)
  have hfz:∀ j,j < L.S→w'.frozen? ⟨L.b,j,none⟩=false:=fun j hj=>by
   have:=m4 j hj
   unfold World.frozen? at this ⊢
   simp only [m1] at this
   simp only [q4];exact this
  have hG:=hs.grow (htag:=fun t ht=>by rw [htag] at ht;cases ht) (r':=.segs (xs.cat ys)) (n':=(l+ny)*1) hl hL qs hk hA.wf (by omega) q2 q3 ⟨c',t',fr,q4,⟨q5.trans m2.1,m2.2⟩,by simp only;omega,hfz⟩ fun j hj=>by
   have hlt:L.base+j < c'.size:=by omega
   refine⟨c'.getD (L.base+j) Go.undef,by unfold World.cell?;simp only [q4];simp [Array.getD_eq_getD_getElem?,Array.getElem?_eq_getElem hlt],?_⟩
   rw [q6]
   simp only [Nat.add_zero,Array.length_toList]
   by_cases hin:l≤j
   ·rw [if_pos (by omega)]
    have e1:=hA.right (j-l) (by omega)
    rw [hsz',show l+(j-l)=j by omega] at e1
    rw [e1,show L.base+j-(L.base+l)=j-l by omega]
    have:=c3 (j-l) (by omega)
    rw [← c4 (j-l) (by omega)] at this
    simpa [Array.getD_eq_getD_getElem?,List.getD_eq_getElem?_getD] using this
   ·rw [if_neg (by omega),hA.left j (by omega)]
    have:=hv j (by omega)
    have e1:w.cell? ⟨L.b,L.base+j,none⟩=some (c.getD (L.base+j) Go.undef):=by
     unfold World.cell?;simp only [m1];simp [Array.getD_eq_getD_getElem?,Array.getElem?_eq_getElem (show L.base+j < c.size by omega)]
    rw [e1] at this
    have h5:=this.1
    injection h5 with h5
    rw [h5];exact this.2
  rw [hrz']
  refine⟨_,w',_,run_append_in ht ht1 ht' hd1 hn1 (hso w) (hlen w) hroom (c1 w rfl) (by simpa [Addr.add_mk] using q1),hG.1,?_⟩
  exact .own _ _ _ (l+ny) cap { L with n:=(l+ny)*1 } (Rho.set_same _ _ _) rfl rfl hroom (by simpa using hS) (by omega) (by omega)
 ·have ho:∀ w1:World,w1.heap=w.heap→(Builtin.firstCells inf.size l (.slice (some ⟨L.b,L.base,none⟩) l cap)).run P w1=.ok (((List.range (l*inf.size)).map vals).toArray) w1:=fun w1 hw1=>
   run_loadCells (P:=P) w1 ⟨L.b,L.base,none⟩ (l*inf.size) vals (fun j hj=>by
    rw [Addr.add_mk,← (hv j (by rw [g4] at hj;omega)).1];unfold World.cell?;rw [hw1])
  rw [← g4] at c1
  obtain⟨cap',w',rest,q1,qs,q2,q3,q4⟩:=run_append_out (w:=w) (ty:=ty) ht ht1 ht' hd1 hn1 g3 g5 (by rw [g6,g4,hsz]) ((h e).bytes h0 inf g3) (hlen w) (show cap < l+ny by omega) hp' ho c1 (by simp) (by rw [c2,g4,Nat.mul_one])
  obtain⟨ρ',p1,p2⟩:=newOwn_ok (htag:=no_tag htag) (cap:=cap') (sz:=1) f1 qs q2 hk hA.wf (by rw [hrs,Nat.mul_one]) (fun j hj=>by
   refine f2 _ _ ?_
   simp only [Array.append_assoc,g4]
   by_cases hin:j < l
   ·rw [hA.left j (by omega)]
    have:=(hv j (by omega)).2
    simpa [Array.getD_eq_getD_getElem?,Array.getElem?_append,hin] using this
   ·have e1:=hA.right (j-l) (by omega)
    rw [hsz',show l+(j-l)=j by omega] at e1
    rw [e1]
    have:=c3 (j-l) (by omega)
    have h2:j-l < cs.size:=by omega
    have e2:((((List.range (l*1)).map vals).toArray++(cs++rest)).getD j Go.undef)=cs.getD (j-l) Go.undef:=by
     simp [Array.getD_eq_getD_getElem?,Array.getElem?_append,hin,h2]
    rw [e2,c4 _ (by omega)];exact this) (by omega) (by rw [q4,g4];exact Nat.le_refl _) q3 (by omega) (fun j _ hh=>by omega) rfl
  rw [hrz']
  exact⟨_,w',ρ',q1,p1,p2⟩
theorem append_ok(h:TysOk P V.T)(hs:Sim U V.G w0 W0 ρ s a w){tys:Array Nat}{ty:Nat}{x y:AV}{u v:Value}(hx:Rep w (Wr U ρ s.heap) ρ x u)(hy:Rep w (Wr U ρ s.heap) ρ y v){i:Nat}
  (ha:abuiltin V i .append tys.toList [x,y] s=some (true,av,s')) :
  ∃ v' w' ρ',(Builtin.append_ tys ty #[u,v]).run P w=.ok v' w'∧Sim U V.G w0 W0 ρ' s' a w'∧Rep w' (Wr U ρ' s'.heap) ρ' av v':=by
 unfold abuiltin at ha
 dsimp only at ha
 split at ha
 rotate_left
 ·split at ha <;> try contradiction
  rename_i kk e k n h1 hd
  split at ha <;> try contradiction
  rename_i r hz
  obtain⟨hp,hk,rfl,rfl⟩:=newBlk_spec ha
  simp only [Bool.and_eq_true,decide_eq_true_eq] at hp
  obtain⟨t,ht,hd⟩:=tyD_at hd (by simp)
  obtain⟨t1,ht1,hd1⟩:=tyD_at h1 (by simp)
  cases hx with | ns=>
  cases hy with | int=>
  obtain⟨h0,g1,g2,inf,z,g3,g4,g5,g6,g7⟩:=h.zrow hz
  obtain⟨cap,w',c,q1,qs,q2,q3,q4,q5⟩:=run_append_made (w:=w) (ty:=ty) (k:=k) (n:=n) (by simpa using ht) (by simpa using ht1) ((h t).slice e hd) ((h t1).int kk hd1) g3 g5 (by rw [g6,g4]) (by omega) ((h e).bytes h0 inf g3) hp.1 hp.2
  obtain⟨ρ',p1,p2⟩:=newOwn_ok (htag:=no_tag (leaf_tag g1)) (cap:=cap) hs qs q2 hk (wf_leaf g1) g2 (fun j hj=>by
   rw [q5 j (by rw [g4];exact hj),g4];exact g7 j hj _ _ _) h0 (by rw [q4,g4];exact Nat.le_refl _) q3 (by omega) (fun j _ hh=>by omega) (bsz_eq g2)
  exact⟨_,w',ρ',q1,p1,p2⟩
 rename_i e hd
 obtain⟨t,t1,d1,ht,ht1,hd,hd1,hn1⟩:∃ t t1 d1,tys[0]?=some t∧tys[1]?=some t1∧(V.T.at t).d=.slice e∧P.underlying t1=some d1∧NotInt d1:=by
  split at hd <;> try contradiction
  ·rename_i e1 h1
   obtain⟨t1,g1,g2⟩:=tyD_at h1 (by simp)
   obtain⟨t,g3,g4⟩:=tyD_at hd (by simp)
   exact⟨t,t1,_,by simpa using g3,by simpa using g1,g4,(h t1).slice _ g2,.inr ⟨_,rfl⟩⟩
  ·rename_i h1
   obtain⟨t1,g1,g2⟩:=tyD_at h1 (by simp)
   obtain⟨t,g3,g4⟩:=tyD_at hd (by simp)
   exact⟨t,t1,_,by simpa using g3,by simpa using g1,g4,(h t1).str g2,.inl rfl⟩
 split at ha
 rotate_left
 ·exact appOwn_ok h hs ht ht1 ((h t).slice e hd) hd1 hn1 hx hy ha
 rename_i ry ny szy hv
 split at ha <;> try contradiction
 rename_i hsz
 rw [Bool.and_eq_true,Nat.beq_eq,Nat.blt_eq] at hsz
 obtain⟨rfl,h0⟩:=hsz
 have hsrc:SrcOk P w (Wr U ρ s.heap) ρ v ry ny (V.T.at e).sz:=src_ok h hs hy hv
 have ht':=(h t).slice e hd
 have fresh:∀ (b:Option Addr) (r0 r:AV) (S:St) (id:Nat),u=.slice b 0 0→r0.size=0→Apps r0 ry r→(∀ t,r.tag=some t→t%512=e∧512≤t)→ny < 1073741824 →
   (∃ i z,P.info? e=some i∧i.zero=some z∧z.cells.size=i.size)→Sim U V.G w0 W0 ρ S a w→(∀ x v,Rep w (Wr U ρ s.heap) ρ x v→Rep w (Wr U ρ S.heap) ρ x v)→hasKey id S.heap=false →
   ∃ v' w' ρ',(Builtin.append_ tys ty #[u,v]).run P w=.ok v' w'∧Sim U V.G w0 W0 ρ' (S.setH id (.cells (bsz r ny (V.T.at e).sz) r true)) a w' ∧
    Rep w' (Wr U ρ' (S.setH id (.cells (bsz r ny (V.T.at e).sz) r true)).heap) ρ' (.own id (klen ny (V.T.at e).sz) (V.T.at e).sz) v':=by
  intro b r0 r S id hu hr0 hA htg hny ⟨i,z,hi,hz,hzs⟩ hS hSr hid
  subst hu
  obtain⟨i',j1,j2⟩:=(h e).size h0
  rw [hi] at j1;cases j1
  have hrs:r.size=ny*(V.T.at e).sz:=by rw [hA.size,hr0,hsrc.size];simp
  by_cases hz0:ny=0
  ·subst hz0
   obtain⟨cs,c1,c2,_⟩:=hsrc.read h0 0 (Nat.le_refl _)
   have e1:cs = #[]:=by apply Array.eq_empty_of_size_eq_zero;omega
   subst e1
   refine⟨.slice b 0 0,w,ρ.set id none,?_,?_,?_⟩
   ·exact run_append_in ht ht1 ht' hd1 hn1 (run_sizeOf' h h0 w) (hsrc.len w) (Nat.le_refl _) (c1 w rfl) (by cases b <;> simp [storeCells])
   ·rw [bsz_eq hrs,Nat.zero_mul];exact(hS.newEmpty hid hA.wf (by rw [hrs];simp)).1
   ·rw [klen_zero];exact .own0 id _ b (Rho.set_same _ _ _)
  ·obtain⟨cs,c1,c2,c3⟩:=hsrc.read h0 ny (Nat.le_refl _)
   rw [← j2] at c1 c2
   obtain⟨cap,w',rest,q1,qs,q2,q3,q4⟩:=run_append_out (w:=w) (ty:=ty) (base:=b) (sLen:=0) (sCap:=0) ht ht1 ht' hd1 hn1 hi hz hzs ((h e).bytes h0 i hi) (hsrc.len w) (by omega) (by omega) (old:=#[]) (cs:=cs)
    (fun w1 _=>by cases b <;> simp [Builtin.firstCells,loadCells,loadCellsFrom]) c1 (by simp) c2
   rw [Nat.zero_add] at q1 q3
   obtain⟨ρ',p1,p2⟩:=newOwn_ok (htag:=htg) (cap:=cap) hS qs q2 hid hA.wf hrs (fun j hj=>by
    refine hSr _ _ ?_
    have e1:=hA.right j (by rw [hsrc.size];exact hj)
    rw [hr0,Nat.zero_add] at e1
    rw [e1]
    have e2:(#[]++cs++rest).getD j Go.undef=cs.getD j Go.undef:=by
     have:j < cs.size:=by rw [c2,j2];exact hj
     simp [Array.getD_eq_getD_getElem?,Array.getElem?_append,this]
    rw [e2];exact c3 j hj) h0 (by rw [q4,j2];exact Nat.le_refl _) q3 (by omega) (fun j _ hh=>by omega) (bsz_eq hrs)
   exact⟨_,w',ρ',q1,p1,p2⟩
 split at ha <;> try contradiction
 ·rename_i r0 hz
  split at ha <;> try contradiction
  rename_i r happ
  obtain⟨hp,hk,rfl,rfl⟩:=newBlk_spec ha
  rw [decide_eq_true_eq] at hp
  cases hx with | ns=>
  obtain⟨_,g1,g2,i,z,g3,g4,g5,g6,_⟩:=h.zrow hz
  exact fresh none r0 r s _ rfl (by rw [g2];simp) (app_spec happ) (no_tag (app_tag happ)) hp ⟨i,z,g3,g5,by rw [g6,g4]⟩ hs (fun _ _ h=>h) hk
 ·rename_i r0 id len sz' hz
  obtain⟨_,_,_,inf,z,g3,g4,g5,g6,_⟩:=h.zrow hz
  split at ha <;> try contradiction
  rename_i n rx hl hsz
  rw [Nat.beq_eq] at hsz;subst hsz
  split at ha <;> try contradiction
  rename_i r happ
  obtain⟨hp,hk,rfl,rfl,htm⟩:=newBlkT_spec ha
  rw [decide_eq_true_eq] at hp
  have hbx:=hs.bl id n rx true hl
  have hmx:rx.isM=false:=appT_isM happ
  obtain⟨hA,htg,_⟩:=appT_spec happ (hbx.wf hmx)
  obtain⟨f1,f2⟩:=hs.weaken (id:=id) (b':=.gone) (.inl rfl)
  cases hx with
  | own0 _ _ b hL=>
   have hz0:rx.size=0:=by
    have hb:=hs.bl id n rx true hl
    rcases hb.lies with ⟨_,h2⟩ | ⟨L,h1,_⟩
    ·rw [hb.size,h2]
    ·rw [hL] at h1;cases h1
   have e0:slen rx 0 (V.T.at e).sz=0:=slen_zero hz0 _
   rw [e0,Nat.zero_add] at hp ⊢
   exact fresh b rx r _ _ rfl hz0 hA (fun t ht=>⟨htm t ht,by have:=(htg t ht).1;omega⟩) hp ⟨inf,z,g3,g5,by rw [g6,g4]⟩ f1 f2 hk
  | own _ _ _ l cap L hL hn hkl hcap hS h00 hm=>
   obtain⟨hw,hsz,hLn,vals,hv⟩:=hs.cells hl hL
   have hsz':rx.size=l*(V.T.at e).sz:=by omega
   have e0:slen rx len (V.T.at e).sz=l:=slen_eq hsz' hkl
   rw [e0] at hp ⊢
   have hrs:r.size=(l+ny)*(V.T.at e).sz:=by rw [hA.size,hsz',hsrc.size,Nat.add_mul]
   obtain⟨cs,c1,c2,c3⟩:=hsrc.read h0 ny (Nat.le_refl _)
   have hbsz:bsz r (l+ny) (V.T.at e).sz=(l+ny)*(V.T.at e).sz:=bsz_eq hrs
   by_cases hroom:l+ny≤cap
   ·have hb:=hs.bl id n rx true hl
    have hM:Mine w L:=by
     rcases hb.lies with ⟨h1,_⟩ | ⟨L',h1,_,_,h4,_⟩
     ·rw [h1] at hL;cases hL
     ·rw [h1] at hL;cases hL;exact h4 rfl hmx
    obtain⟨c,t',fr,m1,m2,m3,m4⟩:=hM
    have hle:(l+ny)*(V.T.at e).sz≤cap*(V.T.at e).sz:=Nat.mul_le_mul_right _ hroom
    have hle':=hle
    rw [Nat.add_mul] at hle'
    obtain⟨w',c',q1,qs,q2,q3,q4,q5,q6⟩:=run_storeCells_mine (P:=P) L.b t' fr (L.base+l*(V.T.at e).sz) cs.toList 0 c w m1 (by simp;omega) (fun j hj=>m4 j (by omega)) (fun v hv=>by
     obtain⟨j,hj,rfl⟩:=List.mem_iff_getElem.1 hv
     have hj':j < ny*(V.T.at e).sz:=by simpa [c2] using hj
     have e1:cs.getD j Go.undef=cs.toList[j]:=by simp [Array.getD_eq_getD_getElem?,show j < cs.size by omega]
     have:=(c3 j hj').one (cell_scal ry j (wf_leaf hsrc.leaf) (by rw [hsrc.size];omega))
     rw [e1] at this
     exact this.2)
    have hfz:∀ j,j < L.S→w'.frozen? ⟨L.b,j,none⟩=false:=fun j hj=>by
     have:=m4 j hj
     unfold World.frozen? at this ⊢
     simp only [m1] at this
     simp only [q4];exact this
    have hG:=hs.grow (htag:=fun t ht=>⟨(htg t ht).2,by have:=(htg t ht).1;omega⟩) (r':=r) (n':=(l+ny)*(V.T.at e).sz) hl hL qs hk hA.wf hrs q2 q3 ⟨c',t',fr,q4,⟨q5.trans m2.1,m2.2⟩,by simp only;omega,hfz⟩ fun j hj=>by
     have hlt:L.base+j < c'.size:=by omega
     refine⟨c'.getD (L.base+j) Go.undef,by unfold World.cell?;simp only [q4];simp [Array.getD_eq_getD_getElem?,Array.getElem?_eq_getElem hlt],?_⟩
     rw [q6]
     simp only [Nat.add_zero,Array.length_toList]
     rw [Nat.add_mul] at hj
     by_cases hin:l*(V.T.at e).sz≤j
     ·rw [if_pos (by omega)]
      have e1:=hA.right (j-l*(V.T.at e).sz) (by rw [hsrc.size];omega)
      rw [hsz',show l*(V.T.at e).sz+(j-l*(V.T.at e).sz)=j by omega] at e1
      rw [e1,show L.base+j-(L.base+l*(V.T.at e).sz)=j-l*(V.T.at e).sz by omega]
      have:=c3 (j-l*(V.T.at e).sz) (by omega)
      simpa [Array.getD_eq_getD_getElem?,List.getD_eq_getElem?_getD] using this
     ·rw [if_neg (by omega),hA.left j (by omega)]
      have:=hv j (by omega)
      have e1:w.cell? ⟨L.b,L.base+j,none⟩=some (c.getD (L.base+j) Go.undef):=by
       unfold World.cell?;simp only [m1];simp [Array.getD_eq_getD_getElem?,Array.getElem?_eq_getElem (show L.base+j < c.size by omega)]
      rw [e1] at this
      have h5:=this.1
      injection h5 with h5
      rw [h5];exact this.2
    rw [hbsz]
    refine⟨_,w',_,run_append_in ht ht1 ht' hd1 hn1 (run_sizeOf' h h0 w) (hsrc.len w) hroom (c1 w rfl) (by simpa [Addr.add_mk] using q1),hG.1,?_⟩
    exact .own _ _ _ (l+ny) cap { L with n:=(l+ny)*(V.T.at e).sz } (Rho.set_same _ _ _) rfl rfl hroom hS h0 (by omega)
   ·obtain⟨inf',j1,j2⟩:=(h e).size h0
    rw [g3] at j1;cases j1
    have ho:∀ w1:World,w1.heap=w.heap→(Builtin.firstCells inf.size l (.slice (some ⟨L.b,L.base,none⟩) l cap)).run P w1=.ok (((List.range (l*inf.size)).map vals).toArray) w1:=fun w1 hw1=>
     run_loadCells (P:=P) w1 ⟨L.b,L.base,none⟩ (l*inf.size) vals (fun j hj=>by
      rw [Addr.add_mk,← (hv j (by rw [j2] at hj;omega)).1];unfold World.cell?;rw [hw1])
    rw [← j2] at c1 c2
    obtain⟨cap',w',rest,q1,qs,q2,q3,q4⟩:=run_append_out (w:=w) (ty:=ty) ht ht1 ht' hd1 hn1 g3 g5 (by rw [g6,g4]) ((h e).bytes h0 inf g3) (hsrc.len w) (show cap < l+ny by omega) hp ho c1 (by simp) c2
    rw [j2] at c2
    obtain⟨ρ',p1,p2⟩:=newOwn_ok (htag:=fun t ht=>⟨htm t ht,by have:=(htg t ht).1;omega⟩) (cap:=cap') f1 qs q2 hk hA.wf hrs (fun j hj=>by
     refine f2 _ _ ?_
     rw [Nat.add_mul] at hj
     simp only [Array.append_assoc,j2]
     by_cases hin:j < l*(V.T.at e).sz
     ·rw [hA.left j (by omega)]
      have:=(hv j (by omega)).2
      simpa [Array.getD_eq_getD_getElem?,Array.getElem?_append,hin] using this
     ·have e1:=hA.right (j-l*(V.T.at e).sz) (by rw [hsrc.size];omega)
      rw [hsz',show l*(V.T.at e).sz+(j-l*(V.T.at e).sz)=j by omega] at e1
      rw [e1]
      have:=c3 (j-l*(V.T.at e).sz) (by omega)
      have h2:j-l*(V.T.at e).sz < cs.size:=by omega
      have e2:((((List.range (l*(V.T.at e).sz)).map vals).toArray++(cs++rest)).getD j Go.undef)=cs.getD (j-l*(V.T.at e).sz) Go.undef:=by
       simp [Array.getD_eq_getD_getElem?,Array.getElem?_append,hin,h2]
      rw [e2];exact this) h0 (by rw [q4,j2];exact Nat.le_refl _) q3 (by omega) (fun j _ hh=>by omega) hbsz
    rw [hbsz] at p1 p2 ⊢
    exact⟨_,w',ρ',q1,p1,p2⟩
 ·rename_i r0 rx hz
  obtain⟨_,_,_,inf,z,g3,g4,g5,g6,_⟩:=h.zrow hz
  split at ha <;> try contradiction
  rename_i r hsz1 happ
  rw [Nat.beq_eq] at hsz1
  simp only [Option.some.injEq,Prod.mk.injEq,decide_eq_true_eq] at ha
  obtain⟨hp,rfl,rfl⟩:=ha
  have hA:=app_spec happ
  obtain⟨l,cap,blk,base,vals,rfl,hr,hn,hp0,hcl,hm,hW,hc,hrep⟩:∃ l cap blk base,∃ vals:Nat→Value,u=.slice (some ⟨blk,base,none⟩) l cap∧rx.leafB=true∧rx.size=l*1∧0 < l∧cap=l∧l < 4611686018427387904∧¬ Wr U ρ s.heap blk ∧
    (∀ j,j < l*1→w.cell? ⟨blk,base+j,none⟩=some (vals j)) ∧ ∀ j,j < l*1→Rep w (Wr U ρ s.heap) ρ (rx.cell j) (vals j):=by
   cases hx with
   | vs0 _ _ _ _ _ _ hl=>rcases hl with hl | ⟨_,⟨hl,_⟩ | ⟨hl,_⟩⟩ <;> cases hl
   | vs _ _ _ l cap blk base vals hr h00 hn hp0 hk hcap hm hW hc hrep=>
    refine⟨l,cap,blk,base,vals,rfl,hr,hn,hp0,?_,hm,hW,hc,hrep⟩
    rcases hk with hk | ⟨_,⟨_,hk⟩ | hk⟩
    ·simp [klen] at hk
    ·exact hk
    ·cases hk
  subst hcl
  rw [Nat.mul_one] at hn
  have hrs:r.size=cap+ny:=by rw [hA.size,hn,hsrc.size,hsz1,Nat.mul_one]
  obtain⟨cs,c1,c2,c3⟩:=hsrc.read h0 ny (Nat.le_refl _)
  by_cases hz0:ny=0
  ·subst hz0
   have e1:cs = #[]:=by apply Array.eq_empty_of_size_eq_zero;omega
   subst e1
   refine⟨.slice (some ⟨blk,base,none⟩) (cap+0) cap,w,ρ,?_,hs,?_⟩
   ·exact run_append_in ht ht1 ht' hd1 hn1 (run_sizeOf' h h0 w) (hsrc.len w) (Nat.le_refl _) (c1 w rfl) (by simp [storeCells])
   ·refine .vs r 0 1 cap cap blk base vals (app_leaf happ) (by omega) (by omega) hp0 (.inl rfl) (Nat.le_refl _) hm hW hc (fun j hj=>?_)
    rw [hA.left j (by omega)];exact hrep j hj
  ·obtain⟨inf',j1,j2⟩:=(h e).size h0
   rw [g3] at j1;cases j1
   rw [← j2] at c1 c2
   have hone:inf.size=1:=by omega
   have ho:∀ w1:World,w1.heap=w.heap→(Builtin.firstCells inf.size cap (.slice (some ⟨blk,base,none⟩) cap cap)).run P w1=.ok (((List.range (cap*inf.size)).map vals).toArray) w1:=fun w1 hw1=>
    run_loadCells (P:=P) w1 ⟨blk,base,none⟩ (cap*inf.size) vals (fun j hj=>by
     have hj':j < cap*1:=by rw [hone] at hj;exact hj
     have:=hc j hj'
     rw [Addr.add_mk];rw [← this];unfold World.cell?;rw [hw1])
   obtain⟨cap',w',rest,q1,qs,q2,q3,q4⟩:=run_append_out (w:=w) (ty:=ty) ht ht1 ht' hd1 hn1 g3 g5 (by rw [g6,g4]) ((h e).bytes h0 inf g3) (hsrc.len w) (show cap < cap+ny by omega) (by omega) ho c1 (by simp) c2
   obtain⟨f1,f2,f3⟩:=hs.garbage qs q2
   refine⟨_,w',ρ,q1,f1,?_⟩
   have hnew:w'.heap[w.heap.size]?=some (.cells ((((List.range (cap*inf.size)).map vals).toArray)++cs++rest) e (0,0)):=by rw [q2,Array.getElem?_push,if_pos rfl]
   rw [hone,Nat.mul_one] at c2
   refine .vs r 0 1 (cap+ny) cap' w.heap.size 0 (fun j=>((((List.range (cap*inf.size)).map vals).toArray)++cs++rest).getD j Go.undef) (app_leaf happ) (by omega) (by omega) (by omega) (.inl rfl) q3 (by omega) f3 (fun j hj=>?_) (fun j hj=>?_)
   ·unfold World.cell?;simp only [hnew,Nat.zero_add]
    have:j < ((((List.range (cap*inf.size)).map vals).toArray)++cs++rest).size:=by rw [q4,hone];omega
    rw [Array.getD_eq_getD_getElem?,Array.getElem?_eq_getElem this];rfl
   ·refine f2 _ _ ?_
    rw [hone,Nat.mul_one,Array.append_assoc]
    by_cases hin:j < cap
    ·rw [hA.left j (by omega)]
     have:=hrep j (by omega)
     simpa [Array.getD_eq_getD_getElem?,Array.getElem?_append,hin] using this
    ·have e1:=hA.right (j-cap) (by rw [hsrc.size,hsz1,Nat.mul_one];omega)
     rw [hn,show cap+(j-cap)=j by omega] at e1
     rw [e1]
     have:=c3 (j-cap) (by rw [hsz1,Nat.mul_one];omega)
     have h2:j-cap < cs.size:=by omega
     have e2:((((List.range cap).map vals).toArray++(cs++rest)).getD j Go.undef)=cs.getD (j-cap) Go.undef:=by
      simp [Array.getD_eq_getD_getElem?,Array.getElem?_append,hin,h2]
     rw [e2];exact this
 ·rename_i r0 id b lim o len hz
  split at ha <;> try contradiction
  rename_i p0 v0 s1 hsz1 hc
  rw [Nat.beq_eq] at hsz1
  simp only [Option.some.injEq,Prod.mk.injEq,Bool.and_eq_true,decide_eq_true_eq] at ha
  obtain⟨⟨hp,hp2⟩,rfl,rfl⟩:=ha
  have hp0:p0=true:=by
   unfold acopy at hc
   split at hc <;> try contradiction
   split at hc <;> try contradiction
   split at hc <;> try contradiction
   simp only [Option.some.injEq,Prod.mk.injEq] at hc
   exact hc.1.symm
  subst hp0
  rw [hsz1] at hsrc
  have hbd:=hsrc.bound
  obtain⟨inf,j1,j2⟩:=(h e).size h0
  cases hx with
  | sl0 _ _ _ _ _ a0 hl0=>
   have hny:ny=0:=by omega
   subst hny
   obtain⟨cs,w',c1,c2,c3,_⟩:=acopy_ok (P:=P) (cap:=0) (base:=none) hs hsrc (.inl ⟨.inr trivial,rfl⟩) hc (by omega)
   obtain⟨cs',d1,d2,_⟩:=hsrc.read (by omega) 0 (Nat.le_refl _)
   have hcs:cs = #[]:=by
    have e1:=d1 w rfl
    have e2:Nat.min 0 0=0:=rfl
    rw [e2] at c1
    rw [c1] at e1
    injection e1 with e1 _
    subst e1
    exact Array.eq_empty_of_size_eq_zero (by omega)
   subst hcs
   have hw:w'=w:=by
    have:Sem.run P (pure ()) w=Result.ok () w:=rfl
    simp only at c2
    injection c2 with _ c2;exact c2.symm
   subst hw
   refine⟨.slice a0 0 0,_,ρ,?_,c3,.sl0 _ _ _ _ _ _ hl0⟩
   have:=run_append_in (P:=P) (w:=w') (w':=w') (ty:=ty) (base:=a0) (sLen:=0) (sCap:=0) ht ht1 ht' hd1 hn1 (run_sizeOf' h h0 w') (hsrc.len w') (Nat.le_refl _) (cs:=#[]) (by rw [hsz1];exact c1) (by cases a0 <;> simp [storeCells])
   simpa using this
  | sl _ _ _ _ _ _ cap L hL h00 hxx hb hcap hm hlim hS=>
   obtain⟨cs,w',c1,c2,c3,_⟩:=acopy_ok (P:=P) (cap:=cap) (base:=some ⟨L.b,L.base+(b+(o+len)),none⟩) hs hsrc (.inr ⟨L,hL,hp,hb,rfl⟩) hc hbd
   refine⟨.slice (some ⟨L.b,L.base+(b+o*1),none⟩) (len+ny) cap,w',ρ,?_,c3,.sl id b lim o (len+ny) 1 cap L hL (by omega) (by omega) hb (by omega) (by omega) hlim hS⟩
   have e2:Nat.min ny ny=ny:=Nat.min_self ny
   rw [e2] at c1
   refine run_append_in (P:=P) (ty:=ty) ht ht1 ht' hd1 hn1 (run_sizeOf' h h0 w) (hsrc.len w) (by omega) (by rw [hsz1];exact c1) ?_
   simp only at c2 ⊢
   rw [Addr.add_mk,hsz1,Nat.mul_one,Nat.mul_one,show L.base+(b+o)+len=L.base+(b+(o+len)) by omega]
   exact c2
end Go.Am
