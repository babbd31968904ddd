/- Part of a proof. -/
import Derived.Test.YtgdibbphgdkllaaAmOpsM
import Derived.Laws.BytesString
import Derived.Test.YtgdibbphgdkllaaAmTy
set_option linter.unusedSimpArgs false
set_option linter.unusedVariables false
section
/- Conversions; all operations but calls. -/
namespace Go.Am
open Go
variable {P : Program} {V : Env} {U : Oth} {w0 : World} {W0 : Nat → Prop} {o : Oper} {ρ ρ' : Rho} {s s' : St} {a : Act} {w w' : World} {av : AV}
theorem foldl_push:∀ (l:List Int) (b:ByteArray),(l.foldl (fun r n=>r.push (UInt8.ofNat n.toNat)) b)=⟨b.data++(l.map fun n=>UInt8.ofNat n.toNat).toArray⟩
 | [],b=>by simp
 | n :: l,b=>by
  simp only [List.foldl_cons,foldl_push l]
  congr 1
  apply Array.ext'
  simp [ByteArray.push]
theorem bytesOf_foldl(l:List Int)(h:∀ n∈l,0≤n∧n < 256):bytesOf (l.foldl (fun r n=>r.push (UInt8.ofNat n.toNat)) ByteArray.empty)=l:=by
 rw [foldl_push]
 have e:(ByteArray.empty.data++(l.map fun n=>UInt8.ofNat n.toNat).toArray)=(l.map fun n=>UInt8.ofNat n.toNat).toArray:=by simp
 rw [e,bytesOf_mk,List.map_map]
 conv=>rhs;rw [← List.map_id l]
 apply List.map_congr_left
 intro n hn
 have:=h n hn
 simp only [Function.comp,UInt8.toNat_ofNat',id]
 omega
theorem cells_u8{W:Nat→Prop}{xs:List Int}{n:Nat}{cs:Array Value}(hl:xs.length=n)(hc:cs.size=n)(h:∀ j,j < n→Rep w W ρ ((AV.rI .u8 xs).cell j) (cs.getD j Go.undef)):
  cs=(xs.map (Value.int .u8)).toArray ∧ ∀ x∈xs,0≤x∧x < 256:=by
 have key:∀ j (hj:j < n),cs.getD j Go.undef=.int .u8 (xs[j]'(by omega))∧0≤xs[j]'(by omega)∧xs[j]'(by omega) < 256:=by
  intro j hj
  have:=h j hj
  simp only [AV.cell] at this
  rw [show xs.getD j 0=xs[j]'(by omega) by simp [List.getD_eq_getElem?_getD,show j < xs.length by omega]] at this
  generalize hv:cs.getD j Go.undef=v at this ⊢
  cases this with | int _ _ hk=>
  refine⟨rfl,?_⟩
  have h1:=hk.1
  have h2:=hk.2
  simp [IntKind.min,IntKind.max,IntKind.signed,IntKind.bits] at h1 h2
  omega
 refine⟨?_,fun x hx=>?_⟩
 ·apply Array.ext
  ·simp [hc,hl]
  ·intro j h1 h2
   have:=(key j (by omega)).1
   simp only [List.getElem_toArray,List.getElem_map]
   rw [← this,Array.getD_eq_getD_getElem?,Array.getElem?_eq_getElem h1];rfl
 ·obtain⟨j,hj,rfl⟩:=List.mem_iff_getElem.1 hx
  exact(key j (by omega)).2
theorem bytesToString_ok(h:TysOk P V.T)(hs:Sim U V.G w0 W0 ρ s a w){e:Nat}{x:AV}{u:Value}{xs:List Int}{len:Nat}(hx:Rep w (Wr U ρ s.heap) ρ x u)(hv:view V s e x=some (.rI .u8 xs,len,1)):
  ∃ b cap str,u=.slice b len cap∧(Conv.bytesToString u).run P w=.ok (.string str) w∧bytesOf str=xs∧str.size < 4611686018427387904:=by
 obtain⟨g1,g2,_,g4,b,cap,rfl,g5,g6⟩:=view_cells h hs hx hv
 simp only [AV.size,Nat.mul_one] at g2
 rcases g6 with g6 | ⟨blk,base,vals,rfl,g6,_⟩
 ·have:len=0:=by omega
  subst this
  have e1:xs=[]:=List.length_eq_zero_iff.1 g2
  subst e1
  cases b with
  | none=>exact⟨none,cap,.empty,rfl,rfl,rfl,by decide⟩
  | some b=>
   refine⟨some b,cap,.empty,rfl,?_,rfl,by decide⟩
   have:=run_bytesToString (P:=P) w b 0 cap [] (by simp [loadCells,loadCellsFrom])
   simpa using this
 ·rw [Nat.mul_one] at g6
  obtain⟨cs,q1,q2,q3,q4⟩:=run_loadCells_rep (P:=P) (r:=.rI .u8 xs) (wf_leaf g1) g2 (fun j hj=>(g6 j hj).1) (fun j hj=>(g6 j hj).2)
  cases q2 with | agg _ _ _ _ _ hcs hrep=>
  obtain⟨e1,e2⟩:=cells_u8 g2 hcs hrep
  rw [e1] at q1
  have:=run_bytesToString (P:=P) w ⟨blk,base,none⟩ len cap xs q1
  refine⟨_,cap,_,rfl,this,bytesOf_foldl xs e2,?_⟩
  rw [← bytesOf_len,bytesOf_foldl xs e2,g2];exact g4
theorem run_stringToBytes(e:Nat)(str:ByteArray)(w:World):∃ cap w',(Conv.stringToBytes e str).run P w=.ok (.slice (some ⟨w.heap.size,0,none⟩) str.size cap) w'∧str.size≤cap∧WSame w w' ∧
  w'.heap=w.heap.push (.cells ((str.data.map fun (c:UInt8)=>Value.int .u8 (c.toNat:Int))++Array.replicate (cap-str.size) (Value.int .u8 0)) e (cap,cap+1)):=by
 let cap:=grownCap w str.size 0 e
 let c:Array Value:=(str.data.map fun (c:UInt8)=>Value.int .u8 (c.toNat:Int))++Array.replicate (cap-str.size) (Value.int .u8 0)
 have hge:str.size≤cap:=grownCap_ge w str.size 0 e
 have hd:str.data.size=str.size:=rfl
 have hsz:c.size=cap:=by simp [c,hd];omega
 have hnew:(w.drew.alloc (.cells c e)).heap[w.heap.size]?=some (.cells c e):=by
  show(w.heap.push _)[w.heap.size]?=_
  simp
 refine⟨cap,(w.drew.alloc (.cells c e)).freeze ⟨w.heap.size,cap,none⟩ 1,?_,hge,⟨rfl,rfl,rfl⟩,?_⟩
 ·simp only [Conv.stringToBytes,Sem.run_bind]
  rw [run_choose_drew]
  simp only [Question.forced,Bool.false_eq_true,if_false,Result.andThen_ok,run_newRow]
  show(((markStringish ⟨w.heap.size,0,none⟩).run P (w.drew.alloc (.cells c e))).andThen fun _ w'=>_)=_
  have hsh:(shape w.heap.size).run P (w.drew.alloc (.cells c e))=.ok (some (e,cap)) (w.drew.alloc (.cells c e)):=by
   show Result.ok ((w.drew.alloc (.cells c e)).shape? w.heap.size) _=_
   unfold World.shape?
   rw [hnew];show Result.ok (some (e,c.size)) _=_;rw [hsz]
  simp [markStringish,hsh]
  rfl
 ·have:((w.drew.alloc (.cells c e)).freeze ⟨w.heap.size,cap,none⟩ 1).heap=(w.heap.push (.cells c e)).modify w.heap.size fun
   | .cells c elem (lo,hi)=>.cells c elem (if lo==hi then (cap,cap+1) else (min lo cap,max hi (cap+1)))
   | o=>o:=rfl
  rw [this]
  apply Array.ext
  ·simp
  ·intro j h1 h2
   simp only [Array.getElem_modify,Array.getElem_push]
   by_cases hj:j < w.heap.size
   ·rw [if_neg (by omega),dif_pos hj,dif_pos hj]
   ·have hj2:j=w.heap.size:=by simp at h2;omega
    rw [if_pos hj2.symm,dif_neg hj,dif_neg hj];rfl
theorem convert_ok(h:TysOk P V.T)(hs:Sim U V.G w0 W0 ρ s a w){src dst:Nat}{x:Operand}(ho:o.op=.convert src dst x){i:Nat}(ha:aop V i o s=some (true,av,s')):OpOk U P V w0 W0 o a w av s':=by
 have hx:=hs.ev x
 simp only [aop,ho] at ha
 have fin:∀ v w' ρ',(convert src dst (a.eval x)).run P w=.ok v w'→Sim U V.G w0 W0 ρ' s' a w'→Rep w' (Wr U ρ' s'.heap) ρ' av v→OpOk U P V w0 W0 o a w av s':=fun v w' ρ' h1 h2 h3=>
  ok_value (by simp only [execOp,ho];exact run_v h1) h2 h3
 split at ha <;> try contradiction
 ·rename_i k1 k k2 n h1 h2 h3
  simp only [Option.some.injEq,Prod.mk.injEq,true_and] at ha
  obtain⟨rfl,rfl⟩:=ha
  rw [h3] at hx
  generalize a.eval x=u at hx fin
  cases hx with | int _ _ hk=>
  exact fin (.int k (k.wrap n)) w ρ (by simp [convert,run_underlying' ((h src).int _ h1),run_underlying' ((h dst).int _ h2),Conv.intToInt]) hs (.int _ _ (wrap_has _ _))
 ·rename_i xs h1 h2 h3
  simp only [Option.some.injEq,Prod.mk.injEq,true_and] at ha
  obtain⟨rfl,rfl⟩:=ha
  rw [h3] at hx
  generalize a.eval x=u at hx fin
  cases hx with | str b hm=>
  exact fin (.string b) w ρ (by simp [convert,run_underlying' ((h src).str h1),run_underlying' ((h dst).str h2)]) hs (.str b hm)
 ·rename_i e xs h1 h2 h3
  split at ha <;> try contradiction
  rename_i he
  obtain⟨hp,hk,rfl,rfl⟩:=newBlk_spec ha
  rw [h3] at hx
  generalize a.eval x=u at hx fin
  cases hx with | str b hm=>
  obtain⟨cap,w',q1,q2,qs,q3⟩:=run_stringToBytes (P:=P) e b w
  have hsz:(b.data.map fun (c:UInt8)=>Value.int .u8 (c.toNat:Int)).size=b.size:=by rw [Array.size_map];rfl
  obtain⟨ρ',p1,p2⟩:=newOwn_ok (htag:=no_tag rfl) (cap:=cap) (l:=b.size) (sz:=1) (r:=.rI .u8 (bytesOf b)) hs qs q3 hk trivial (by simp [AV.size,bytesOf_len]) (fun j hj=>by
   have hsrc:=(src_str (P:=P) (w:=w) (ρ:=ρ) (W:=Wr U ρ s.heap) (.str b hm)).read (by omega) b.size (by rw [bytesOf_len];exact Nat.le_refl _)
   obtain⟨cs,c1,c2,c3⟩:=hsrc
   have c1:=c1 w rfl
   simp only [Builtin.firstCells,Sem.run_pure] at c1
   injection c1 with c1
   have e1:(b.extract 0 b.size).data=b.data:=by simp
   rw [e1] at c1
   have:=c3 j hj
   rw [← c1] at this
   have e2:((b.data.map fun (c:UInt8)=>Value.int .u8 (c.toNat:Int))++Array.replicate (cap-b.size) (Value.int .u8 0)).getD j Go.undef=(b.data.map fun (c:UInt8)=>Value.int .u8 (c.toNat:Int)).getD j Go.undef:=by
    rw [Array.getD_eq_getD_getElem?,Array.getD_eq_getD_getElem?,Array.getElem?_append,if_pos (by rw [hsz];omega)]
   rw [e2];exact this) (by omega) (by simp [hsz];omega) q2 hm (fun j hj hh=>by simp [hsz] at hj;omega) (n:=(bytesOf b).length) (by rw [bytesOf_len,Nat.mul_one])
  exact fin _ w' ρ' (by simp only [convert,Sem.run_bind,run_underlying' ((h src).str h1),run_underlying' ((h dst).slice _ h2),Result.andThen_ok,run_underlying' ((h e).int _ he)];exact q1) p1 p2
 ·rename_i e e2 id len h1 h2 h3
  split at ha <;> try contradiction
  rename_i n r hsd he hl
  split at ha <;> try contradiction
  rename_i h0
  rw [Nat.blt_eq] at h0
  rw [Nat.beq_eq] at hsd;subst hsd
  rw [h1] at h2;injection h2 with h2;subst h2
  simp only [Option.some.injEq,Prod.mk.injEq,true_and] at ha
  obtain⟨rfl,rfl⟩:=ha
  rw [h3] at hx
  generalize a.eval x=u at hx fin
  have hb:=hs.bl id n r true hl
  cases hx with
  | own0 _ _ b hL=>
   rcases hb.lies with ⟨_,h⟩ | ⟨L,h,_⟩
   ·omega
   ·rw [hL] at h;cases h
  | own _ _ _ l cap L hL hn hk hcap hS h00 hm=>
   obtain⟨hw,hsz,hLn,vals,hv⟩:=hs.cells hl hL
   have hM:Mine w L:=by
    rcases hb.lies with ⟨h,_⟩ | ⟨L',h,_,_,h4,_⟩
    ·rw [h] at hL;cases hL
    ·rw [h] at hL;cases hL;exact h4 rfl (size_isM (by omega))
   have hw:=hw (size_isM (by omega))
   obtain⟨c,t,⟨lo,hi⟩,m1,m2,m3,m4⟩:=hM
   let fr':Nat×Nat:=if lo==hi then (c.size,c.size+1) else (min lo c.size,max hi (c.size+1))
   have hw':∀ b,(w.freeze ⟨L.b,c.size,none⟩ 1).heap[b]?=if b=L.b then some (.cells c t fr') else w.heap[b]?:=by
    intro b
    have e1:(w.freeze ⟨L.b,c.size,none⟩ 1).heap=w.heap.modify L.b fun
     | .cells c' elem (lo,hi)=>.cells c' elem (if lo==hi then (c.size,c.size+1) else (min lo c.size,max hi (c.size+1)))
     | o=>o:=rfl
    rw [e1,Array.getElem?_modify]
    by_cases e:b=L.b
    ·subst e;rw [if_pos rfl,if_pos rfl,m1];rfl
    ·rw [if_neg (Ne.symm e),if_neg e]
   have hS2:c.size=L.S:=m2.1
   have hlh:lo≤hi:=m2.2
   have hlo:lo≠hi→L.S≤lo:=fun hne=>by
    refine Nat.le_of_not_lt fun hlt=>?_
    have h4:=m4 lo hlt
    unfold World.frozen? at h4
    simp only [m1,Bool.and_eq_false_iff,decide_eq_false_iff_not] at h4
    omega
   have hfz:∀ j,j < L.S→(w.freeze ⟨L.b,c.size,none⟩ 1).frozen? ⟨L.b,j,none⟩=false:=fun j hj=>by
    have h4:=m4 j hj
    unfold World.frozen? at h4 ⊢
    simp only [m1] at h4
    simp only [hw' L.b,if_true]
    simp only [fr']
    simp only [Bool.and_eq_false_iff,decide_eq_false_iff_not] at h4 ⊢
    split
    ·left;simp only;omega
    ·rename_i hne
     have hne':=hlo (by simpa using hne)
     simp only
     omega
   have:=hs.rewrite (w':=w.freeze ⟨L.b,c.size,none⟩ 1) (htag:=fun _ h=>h) hl hL ⟨rfl,rfl,rfl⟩ hw hsz (by
     have e1:(w.freeze ⟨L.b,c.size,none⟩ 1).heap=w.heap.modify L.b fun
      | .cells c' elem (lo,hi)=>.cells c' elem (if lo==hi then (c.size,c.size+1) else (min lo c.size,max hi (c.size+1)))
      | o=>o:=rfl
     rw [e1];simp) (fun b hb=>by rw [hw' b,if_neg hb]) ⟨c,t,fr',by rw [hw' L.b,if_pos rfl],⟨m2.1,by simp only [fr'];split <;> simp only <;> omega⟩,m3,hfz⟩ (fun j hj=>by
     obtain⟨q1,q2⟩:=hv j hj
     refine⟨vals j,?_,q2⟩
     rw [← q1]
     unfold World.cell?
     simp only [hw' L.b,if_true,m1])
   have heq:Eqv (s.setH id (.cells n r true)) s:=⟨fun _=>rfl,fun i=>by
     simp only [St.setH];rw [lkH_put];split
     ·rename_i h;rw [h,hl]
     ·rfl,fun i=>by
     simp only [St.setH];rw [hasKey_put]
     by_cases e:i=id
     ·subst e;cases hk:hasKey i s.heap with
      | true=>simp
      | false=>rw [lkH_none hk] at hl;cases hl
     ·simp [e],rfl,rfl,rfl⟩
   refine fin (.slice (some ⟨L.b,L.base,none⟩) l cap) _ ρ ?_ (this.1.eqv heq) (.own id len 1 l cap L hL hn hk hcap hS h00 hm)
   have hsh:(shape L.b).run P w=.ok (some (t,c.size)) w:=by
    show Result.ok (w.shape? L.b) _=_
    unfold World.shape?
    rw [m1]
   simp [convert,run_underlying' ((h src).slice _ h1),run_underlying' ((h e).int _ he),markStringish,hsh]
 ·rename_i v e h1 h2
  split at ha <;> try contradiction
  rename_i xs len he hv
  simp only [Option.some.injEq,Prod.mk.injEq,true_and] at ha
  obtain⟨rfl,rfl⟩:=ha
  obtain⟨b,cap,str,hu,q1,q2,q3⟩:=bytesToString_ok (P:=P) h hs hx hv
  refine fin (.string str) w ρ ?_ hs (by rw [← q2];exact .str str q3)
  rw [hu] at q1 ⊢
  simp only [convert,Sem.run_bind,run_underlying' ((h src).slice _ h1),run_underlying' ((h dst).str h2),Result.andThen_ok,run_underlying' ((h e).int _ he)]
  exact q1
theorem arrayAt_ok(h:TysOk P V.T)(hs:Sim U V.G w0 W0 ρ s a w){t:Nat}{x:Operand}(ho:o.op=.sliceToArrayPointer t x){i:Nat}(ha:aop V i o s=some (true,av,s')):
  s'=s ∧ ∃ v,(Instr.arrayAt t (a.eval x)).run P w=.ok v w∧Rep w (Wr U ρ s.heap) ρ av v:=by
 have hx:=hs.ev x
 simp only [aop,ho] at ha
 generalize ev V s x=y at hx ha
 generalize a.eval x=u at hx
 split at ha <;> try contradiction
 rename_i n e hd
 have run:∀ (b:Option Addr) (len cap:Nat),n≤len→(Instr.arrayAt t (.slice b len cap)).run P w=.ok (.pointer b) w:=fun b len cap hn=>by
  have:¬ len < n:=by omega
  simp [Instr.arrayAt,run_underlying' ((h t).arr n e hd),this]
 split at ha <;> try contradiction
 ·rename_i r len sz hc
  simp only [Bool.and_eq_true,Nat.beq_eq,Nat.blt_eq] at hc
  obtain⟨he,h0⟩:=hc
  simp only [Option.map_eq_some_iff,Prod.mk.injEq,decide_eq_true_eq] at ha
  obtain⟨r',hp,hn,rfl,rfl⟩:=ha
  rw [mz_eq] at h0 hp
  have hz:0 < n∧0 < sz:=⟨Nat.pos_of_mul_pos_right h0,Nat.pos_of_mul_pos_left h0⟩
  cases hx with
  | vs0 _ _ cap b hr hs0 hl=>rw [slen_zeroV hs0 hl] at hn;omega
  | vs _ _ _ l cap blk base vals hr h00 hns hp0 hk hcap hm hW hcell hrep=>
   rw [slen_eqv hns hk] at hn
   have hle:n*sz≤l*sz:=Nat.mul_le_mul_right _ hn
   have hpt:=part_spec hp (by omega)
   refine⟨rfl,_,run _ _ _ hn,?_⟩
   rw [mz_eq]
   have:=Rep.gp (w:=w) (W:=Wr U ρ s.heap) (ρ:=ρ) r' (n*sz) 0 0 0 (n*sz) blk base vals (Parts.leaf hp) hpt.size (fun _=>rfl) (by simp [ix]) h0 hW (fun j hj=>hcell j (by omega)) (fun j hj=>by
    rw [hpt.cells j hj,Nat.zero_add];exact hrep j (by omega))
   simpa [ix] using this
 ·rename_i id len sz hc
  simp only [Bool.and_eq_true,Nat.beq_eq,Nat.blt_eq] at hc
  obtain⟨he,h0⟩:=hc
  simp only [Option.map_eq_some_iff,Prod.mk.injEq,decide_eq_true_eq] at ha
  obtain⟨l,hol,hn,rfl,rfl⟩:=ha
  rw [mz_eq] at h0
  have hz:0 < n∧0 < sz:=⟨Nat.pos_of_mul_pos_right h0,Nat.pos_of_mul_pos_left h0⟩
  obtain⟨_,_,_,_,_,hh⟩:=olen_ok hs hx hol
  rcases hh with ⟨h1,_⟩ | ⟨cap,L,hL,rfl,g1,g2,g3,g4,g5,g6⟩
  ·omega
  ·refine⟨rfl,_,run _ _ _ hn,?_⟩
   rw [mz_eq,mz_eq]
   have hle:n*sz≤l*sz:=Nat.mul_le_mul_right _ hn
   have hix:ix 0 sz 0=0:=by rw [ix_elem hz.2];simp
   have:=Rep.ptr (w:=w) (W:=Wr U ρ s.heap) (ρ:=ρ) id 0 (l*sz) 0 sz 0 (n*sz) L hL (fun h=>rfl) (by rw [hix];omega) (by omega) h0
   simpa [hix] using this
 ·rename_i id b lim o' len sz hc
  simp only [Bool.and_eq_true,Nat.beq_eq,Nat.blt_eq] at hc
  obtain⟨he,h0⟩:=hc
  simp only [Option.some.injEq,Prod.mk.injEq,decide_eq_true_eq] at ha
  obtain⟨hn,rfl,rfl⟩:=ha
  rw [mz_eq] at h0
  have hz:0 < n∧0 < sz:=⟨Nat.pos_of_mul_pos_right h0,Nat.pos_of_mul_pos_left h0⟩
  cases hx with
  | sl0 _ _ _ _ _ b'=>omega
  | sl _ _ _ _ _ _ cap L hL h00 hx hb hcap hm=>
   refine⟨rfl,_,run _ _ _ hn,?_⟩
   rw [mz_eq]
   have hle:(o'+n)*sz≤(o'+len)*sz:=Nat.mul_le_mul_right _ (by omega)
   rw [Nat.add_mul] at hle
   have hix:ix o' sz 0=o'*sz:=by rw [ix_elem hz.2];simp
   have:=Rep.ptr (w:=w) (W:=Wr U ρ s.heap) (ρ:=ρ) id b lim o' sz 0 (n*sz) L hL (fun h=>by omega) (by rw [hix];omega) hb h0
   simpa [hix] using this
theorem run_b{x:Sem Bool}{q:Bool}(f:Bool→Value)(h:x.run P w=.ok q w):(do pure (f (← x)):Sem Value).run P w=.ok (f q) w:=by simp [h]
theorem nilcmp_ok(h:TysOk P V.T)(hs:Sim U V.G w0 W0 ρ s a w){op:BinOp}{t:TypeId}{x y:AV}{u v:Value}{r:Bool}(hx:Rep w (Wr U ρ s.heap) ρ x u)(hy:Rep w (Wr U ρ s.heap) ρ y v)(hb:nilcmp V t op x y s=some r)(ox oy:Operand):
  ∃ q,(do eqGuard op t ox oy u v;binOp op t u v:Sem Value).run P w=.ok q w∧Rep w (Wr U ρ s.heap) ρ (.bool r) q:=by
 unfold nilcmp at hb
 split at hb <;> try contradiction
 rename_i q hq
 have hE:(∀ op,(eqGuard op t ox oy u v).run P w=.ok () w)∧(binOp .eql t u v).run P w=.ok (.bool q) w∧(binOp .neq t u v).run P w=.ok (.bool (!q)) w:=by
  unfold isNil at hq
  split at hq <;> try contradiction
  ·split at hq <;> try contradiction
   ·rename_i e hd
    injection hq with hq;subst hq
    cases hx with | ptr=>
    cases hy with | nilp=>
    have hd9:∀ (d:Nat) (b:Addr),(Op.equalIn (d+1) t (.pointer (some b)) (.pointer none)).run P w=.ok false w:=fun d b=>by simp [Op.equalIn,run_underlying' ((h t).ptr e hd)]
    exact⟨fun op=>by unfold eqGuard;cases op <;> rfl,(run_b (fun b=>Value.bool b) (hd9 9999 _)),(run_b (fun b=>Value.bool (!b)) (hd9 9999 _))⟩
   ·rename_i e hd
    injection hq with hq;subst hq
    cases hx with | nilp=>
    cases hy with | nilp=>
    have hd9:∀ d:Nat,(Op.equalIn (d+1) t (.pointer none) (.pointer none)).run P w=.ok true w:=fun d=>by simp [Op.equalIn,run_underlying' ((h t).ptr e hd)]
    exact⟨fun op=>by unfold eqGuard;cases op <;> rfl,(run_b (fun b=>Value.bool b) (hd9 9999)),(run_b (fun b=>Value.bool (!b)) (hd9 9999))⟩
  ·split at hq <;> try contradiction
   rename_i id len e hd
   split at hq <;> try contradiction
   rename_i n rr bb hl
   split at hq <;> try contradiction
   rename_i hn
   rw [Nat.blt_eq] at hn
   injection hq with hq;subst hq
   cases hy with | ns=>
   cases hx with
   | own0 _ _ b hL=>
    have hb:=hs.bl id n rr bb hl
    rcases hb.lies with ⟨_,h2⟩ | ⟨L,h1,_⟩
    ·omega
    ·rw [hL] at h1;cases h1
   | own=>
    have hd9:∀ (d:Nat) b len cap,(Op.equalIn (d+1) t (.slice (some b) len cap) (.slice none 0 0)).run P w=.ok false w:=fun d b len cap=>by simp [Op.equalIn,run_underlying' ((h t).slice e hd)]
    exact⟨fun op=>by unfold eqGuard;cases op <;> rfl,(run_b (fun b=>Value.bool b) (hd9 9999 _ _ _)),(run_b (fun b=>Value.bool (!b)) (hd9 9999 _ _ _))⟩
 split at hb <;> try contradiction
 ·injection hb with hb;subst hb
  exact⟨.bool q,by simp only [Sem.run_bind,hE.1,Result.andThen_ok,hE.2.1],.bool _⟩
 ·injection hb with hb;subst hb
  exact⟨.bool (!q),by simp only [Sem.run_bind,hE.1,Result.andThen_ok,hE.2.2],.bool _⟩
theorem aop_plain(h:TysOk P V.T)(hs:Sim U V.G w0 W0 ρ s a w)(hc:∀ c f,o.op=.call c→c.callee≠.value f){i:Nat}(ha:aop V i o s=some (true,av,s')):OpOk U P V w0 W0 o a w av s':=by
 cases ho:o.op with
 | move x=>
  simp only [aop,ho,Option.some.injEq,Prod.mk.injEq,true_and] at ha
  obtain⟨rfl,rfl⟩:=ha
  exact ok_value (v:=a.eval x) (by simp [execOp,ho]) hs (hs.ev x)
 | assign x=>
  simp only [aop,ho,Option.some.injEq,Prod.mk.injEq,true_and] at ha
  obtain⟨rfl,rfl⟩:=ha
  exact ok_value (v:=a.eval x) (by simp [execOp,ho]) hs (hs.ev x)
 | alloc t=>exact alloc_ok h hs ho ha
 | box t x=>exact box_ok h hs ho ha
 | build t parts=>
  obtain⟨rfl,v,g1,g2⟩:=build_ok h hs ho ha
  exact ok_value (by simp only [execOp,ho];exact run_v g1) hs g2
 | buildSlice t n parts=>exact buildSlice_ok h hs ho ha
 | load t x=>
  simp only [aop,ho,Option.map_eq_some_iff,Prod.mk.injEq,true_and] at ha
  obtain⟨v,g1,rfl,rfl⟩:=ha
  obtain⟨u,g2,g3⟩:=aload_ok (P:=P) h hs (hs.ev x) g1
  exact ok_value (by simp only [execOp,ho];exact run_v g2) hs g3
 | store t x y=>
  simp only [aop,ho,Option.map_eq_some_iff,Prod.mk.injEq,true_and] at ha
  obtain⟨v,g1,rfl,rfl⟩:=ha
  obtain⟨u,g2,g3⟩:=astore_ok (P:=P) h hs (hs.ev x) (hs.ev y) g1
  exact ok_skip (by simp only [execOp,ho];exact run_u g2) g3
 | nilCheck x=>
  have hx:=hs.ev x
  simp only [aop,ho] at ha
  generalize ev V s x=y at hx ha
  have fin:∀ v,a.eval x=v→(execOp a.eval o).run P w=.ok (.value v) w→Rep w (Wr U ρ s.heap) ρ y v→some (true,y,s)=some (true,av,s')→OpOk U P V w0 W0 o a w av s':=fun v _ h2 h3 h4=>by
   simp only [Option.some.injEq,Prod.mk.injEq,true_and] at h4
   obtain⟨rfl,rfl⟩:=h4
   exact ok_value h2 hs h3
  generalize hu:a.eval x=u at hx fin
  cases hx <;> simp only [reduceCtorEq] at ha
  ·exact fin _ rfl (by simp [execOp,ho,hu]) (by constructor <;> assumption) ha
  ·exact fin _ rfl (by simp [execOp,ho,hu]) (by constructor <;> assumption) ha
  ·exact fin _ rfl (by simp [execOp,ho,hu]) (by constructor <;> assumption) ha
  ·exact fin _ rfl (by simp [execOp,ho,hu]) (.yl _) ha
 | binOp op t x y sg=>
  simp only [aop,ho] at ha
  split at ha
  ·rename_i b hb
   simp only [Option.some.injEq,Prod.mk.injEq,true_and] at ha
   obtain⟨rfl,rfl⟩:=ha
   obtain⟨u,g2,g3⟩:=nilcmp_ok (P:=P) h hs (hs.ev x) (hs.ev y) hb x y
   exact ok_value (by simp only [execOp,ho];exact run_v g2) hs g3
  simp only [Option.map_eq_some_iff,Prod.mk.injEq] at ha
  obtain⟨⟨p,v⟩,g1,rfl,rfl,rfl⟩:=ha
  obtain⟨u,g2,g3⟩:=abin_ok (P:=P) h (hs.ev x) (hs.ev y) g1 x y
  exact ok_value (by simp only [execOp,ho];exact run_v g2) hs g3
 | unOp op t x=>
  simp only [aop,ho,Option.map_eq_some_iff,Prod.mk.injEq,true_and] at ha
  obtain⟨v,g1,rfl,rfl⟩:=ha
  obtain⟨u,g2,g3⟩:=unary_ok (P:=P) (hs.ev x) g1
  exact ok_value (by simp only [execOp,ho];exact run_v g2) hs g3
 | convert src dst x=>exact convert_ok h hs ho ha
 | sliceToArrayPointer t x=>
  obtain⟨rfl,v,g1,g2⟩:=arrayAt_ok h hs ho ha
  exact ok_value (by simp only [execOp,ho];exact run_v g1) hs g2
 | makeSlice t l c=>exact makeSlice_ok h hs ho ha
 | slice t x lo hi mx=>
  cases mx with
  | some m=>
   cases hi with
   | none=>simp [aop,ho] at ha
   | some hi=>
    cases lo with
    | none=>
     simp only [aop,ho] at ha
     obtain⟨v,g1,g2,g3⟩:=asliceX_ok (P:=P) h hs (hs.ev x) (lo':=none) (.inl ⟨rfl,rfl⟩) (hs.ev hi) (hs.ev m) ha
     exact ok_value (by simp only [execOp,ho];exact run_v g1) g2 g3
    | some l=>
     simp only [aop,ho] at ha
     obtain⟨rfl,rfl,v,g1⟩:=aslice3_ok (P:=P) h hs (hs.ev x) (hs.ev l) (hs.ev hi) (hs.ev m) ha
     exact ok_value (by simp only [execOp,ho];exact run_v g1) hs (.undef v)
  | none=>
   simp only [aop,ho] at ha
   obtain⟨rfl,v,g1,g2⟩:=aslice_ok (P:=P) h hs (hs.ev x) (lo':=lo.map a.eval) (hi':=hi.map a.eval) (by
    cases lo with
    | none=>exact .inl ⟨rfl,rfl⟩
    | some l=>exact .inr ⟨_,_,rfl,rfl,hs.ev l⟩) (by
    cases hi with
    | none=>exact .inl ⟨rfl,rfl⟩
    | some l=>exact .inr ⟨_,_,rfl,rfl,hs.ev l⟩) ha
   exact ok_value (by simp only [execOp,ho];exact run_v g1) hs g2
 | fieldAddr t x f=>
  simp only [aop,ho] at ha
  split at ha <;> try contradiction
  rename_i fs hd
  split at ha <;> try contradiction
  rename_i ft off hf
  simp only [Option.map_eq_some_iff,Prod.mk.injEq,true_and] at ha
  obtain⟨v,g1,rfl,rfl⟩:=ha
  obtain⟨u,g2,g3⟩:=fieldAddr_ok h hd hf (hs.ev x) g1
  exact ok_value (by simp only [execOp,ho];exact run_v g2) hs g3
 | field t x f=>
  have hx:=hs.ev x
  simp only [aop,ho] at ha
  split at ha <;> try contradiction
  rename_i fs n r hd hv
  split at ha <;> try contradiction
  rename_i ft off hf
  split at ha <;> try contradiction
  rename_i hle
  rw [Nat.ble_eq] at hle
  simp only [Option.map_eq_some_iff,Prod.mk.injEq,true_and] at ha
  obtain⟨v,g1,rfl,rfl⟩:=ha
  rw [hv] at hx
  generalize hu:a.eval x=u at hx
  cases hx with | agg _ _ cs hw hr hcs hrep=>
  obtain⟨arr,fd,q1,q2,q3,q4⟩:=struct_field h hd hf
  obtain⟨u,g2,g3⟩:=part_ok (P:=P) h (.agg n r cs hw hr hcs hrep) hle g1
  refine ok_value (v:=u) ?_ hs g3
  simp only [execOp,ho]
  refine run_v ?_
  rw [hu]
  simp only [Instr.field,Sem.run_bind,run_underlying' q1,Result.andThen_ok,q2,asAgg,Sem.run_pure,q3]
  first | exact g2 | (rw [q4];exact g2)
 | indexAddr t x j=>
  obtain⟨rfl,v,g1,g2⟩:=indexAddr_ok (y:=j) h hs ho ha
  exact ok_value (by simp only [execOp,ho];exact run_v g1) hs g2
 | index t x j=>
  obtain⟨rfl,v,g1,g2⟩:=index_ok h hs ho ha
  exact ok_value (by simp only [execOp,ho];exact run_v g1) hs g2
 | extract x j=>
  have hx:=hs.ev x
  simp only [aop,ho] at ha
  split at ha <;> try contradiction
  rename_i vs hv
  split at ha <;> try contradiction
  rename_i hj
  rw [Nat.blt_eq] at hj
  simp only [Option.some.injEq,Prod.mk.injEq,true_and] at ha
  obtain⟨rfl,rfl⟩:=ha
  rw [hv] at hx
  generalize hu:a.eval x=u at hx
  cases hx with | tup _ ws hl hrep=>
  refine ok_value (v:=ws.getD j Go.undef) ?_ hs (hrep j hj)
  simp only [execOp,ho]
  refine run_v ?_
  rw [hu]
  simp [Instr.extract,Array.getD_eq_getD_getElem?,Array.getElem?_eq_getElem (show j < ws.size by omega)]
 | makeFunc fn first cap=>
  unfold aop at ha
  rw [ho] at ha
  dsimp only at ha
  split at ha <;> try contradiction
  rename_i f first cap hop
  injection hop with e1 e2 e3
  subst e1;subst e2;subst e3
  split at ha <;> try contradiction
  rename_i hf hf30
  rw [Nat.blt_eq] at hf30
  simp only [Option.some.injEq,Prod.mk.injEq,true_and] at ha
  obtain⟨rfl,rfl⟩:=ha
  have e0:first = #[]:=by apply Array.ext';simpa using hf
  subst e0
  refine ok_value (v:=.func (.func f) #[] (cap.map a.eval)) (by simp [execOp,ho,Instr.makeFunc]) hs ?_
  have key:∀ (l:List Operand) (j:Nat),(AVs.ofList (l.map (ev V s))).len=l.length∧(j < l.length→Rep w (Wr U ρ s.heap) ρ ((AVs.ofList (l.map (ev V s))).nth j) ((l.map a.eval).getD j Go.undef)):=by
   intro l
   induction l with
   | nil=>intro j;exact⟨rfl,fun h=>by simp at h⟩
   | cons x l ih=>
    intro j
    refine⟨by simp [AVs.ofList,AVs.len,(ih 0).1],fun hj=>?_⟩
    cases j with
    | zero=>exact hs.ev x
    | succ j=>exact(ih j).2 (by simpa using hj)
  refine .fn f _ _ hf30 (by simpa using (key cap.toList 0).1) fun j hj=>?_
  have:=(key cap.toList j).2 (by rw [← (key cap.toList 0).1];exact hj)
  simpa [Array.getD_eq_getD_getElem?,List.getD_eq_getElem?_getD] using this
 | call c=>
  unfold aop at ha
  rw [ho] at ha
  dsimp only at ha
  split at ha
  ·rename_i b hb
   have one:∀ {l:List Operand} {x:AV},l.map (ev V s)=[x] → ∃ p,l=[p]∧x=ev V s p:=fun {l x} h=>by
    cases l with
    | nil=>simp at h
    | cons p l=>cases l with
     | nil=>simp at h;exact⟨p,rfl,h.symm⟩
     | cons q l=>simp at h
   have two:∀ {l:List Operand} {x y:AV},l.map (ev V s)=[x,y] → ∃ p q,l=[p,q]∧x=ev V s p∧y=ev V s q:=fun {l x y} h=>by
    cases l with
    | nil=>simp at h
    | cons p l=>cases l with
     | nil=>simp at h
     | cons q l=>cases l with
      | nil=>simp at h;exact⟨p,q,rfl,h.1.symm,h.2.symm⟩
      | cons r l=>simp at h
   have hop:∀ l:List Operand,c.args.toList=l→c.args.map a.eval=(l.map a.eval).toArray:=fun l hl=>by
    subst hl;apply Array.ext';simp
   have run:∀ (x:Sem Value) v w',x.run P w=.ok v w'→(∀ k,Go.builtin b c.argTypes o.type k (c.args.map a.eval)=(do pure (Next.value (← x)):Sem Next))→(execOp a.eval o).run P w=.ok (.value v) w':=fun x v w' h1 h2=>by
    simp only [execOp,ho,resolve,hb,Sem.run_bind,Sem.run_pure,Result.andThen_ok,invoke]
    rw [h2];exact run_v h1
   cases b <;> try (unfold abuiltin at ha;dsimp only at ha;contradiction)
   case len=>
    generalize hargs:c.args.toList.map (ev V s)=args at ha
    have ha':=ha
    unfold abuiltin at ha
    dsimp only at ha
    split at ha <;> try contradiction
    rename_i heq;cases heq
    obtain⟨p,hp,rfl⟩:=one hargs
    obtain⟨rfl,v,g1,g2⟩:=len_ok (P:=P) (ty:=o.type) h hs (hs.ev p) ha'
    exact ok_value (run _ v w g1 (fun k=>by rw [hop _ hp];rfl)) hs g2
   case append=>
    generalize hargs:c.args.toList.map (ev V s)=args at ha
    have ha':=ha
    unfold abuiltin at ha
    dsimp only at ha
    split at ha <;> try contradiction
    rename_i heq;cases heq
    obtain⟨p,q,hp,rfl,rfl⟩:=two hargs
    obtain⟨v,w',ρ',g1,g2,g3⟩:=append_ok (P:=P) (ty:=o.type) h hs (hs.ev p) (hs.ev q) ha'
    exact ok_value (run _ v w' g1 (fun k=>by rw [hop _ hp];rfl)) g2 g3
   case copy=>
    generalize hargs:c.args.toList.map (ev V s)=args at ha
    have ha':=ha
    unfold abuiltin at ha
    dsimp only at ha
    split at ha <;> try contradiction
    rename_i heq;cases heq
    obtain⟨p,q,hp,rfl,rfl⟩:=two hargs
    obtain⟨v,w',g1,g2,g3⟩:=copy_ok (P:=P) (ty:=o.type) h hs (hs.ev p) (hs.ev q) ha'
    exact ok_value (run _ v w' g1 (fun k=>by rw [hop _ hp];rfl)) g2 g3
   case clear=>
    generalize hargs:c.args.toList.map (ev V s)=args at ha
    have ha':=ha
    unfold abuiltin at ha
    dsimp only at ha
    split at ha <;> try contradiction
    rename_i heq;cases heq
    obtain⟨p,hp,rfl⟩:=one hargs
    obtain⟨w',g1,g2,rfl⟩:=clear_ok (P:=P) (ty:=o.type) h hs (hs.ev p) ha'
    exact ok_value (run _ _ w' g1 (fun k=>by rw [hop _ hp];rfl)) g2 (.tup _ _ rfl fun j hj=>by simp [AVs.len] at hj)
   case delete=>
    generalize hargs:c.args.toList.map (ev V s)=args at ha
    have ha':=ha
    unfold abuiltin at ha
    dsimp only at ha
    split at ha <;> try contradiction
    rename_i heq;cases heq
    obtain⟨p,q,hp,rfl,rfl⟩:=two hargs
    obtain⟨w',g1,g2,rfl⟩:=delete_ok (P:=P) (ty:=o.type) h hs (hs.ev p) (hs.ev q) ha'
    exact ok_value (run _ _ w' g1 (fun k=>by rw [hop _ hp];rfl)) g2 (.tup _ _ rfl fun j hj=>by simp [AVs.len] at hj)
   case cap=>
    generalize hargs:c.args.toList.map (ev V s)=args at ha
    unfold abuiltin at ha
    dsimp only at ha
    split at ha <;> try contradiction
    rename_i heq;cases heq
    obtain⟨p,hp,e0⟩:=one hargs
    split at ha <;> try contradiction
    rename_i e hd
    simp only [Option.some.injEq,Prod.mk.injEq,true_and] at ha
    obtain⟨rfl,rfl⟩:=ha
    obtain⟨t,ht,hd⟩:=tyD_at hd (by simp)
    have ht':c.argTypes[0]?=some t:=by simpa using ht
    have hr:=hs.ev p
    rw [← e0] at hr
    generalize hu:a.eval p=u at hr
    cases hr with | ns=>
    refine ok_value (run _ (goInt 0) w ?_ (fun k=>by rw [hop _ hp];rfl)) hs (toI_rep 0 _ (by simp))
    simp [Builtin.cap_,ht',run_underlying' ((h t).slice e hd),hu]
   case min=>
    generalize hargs:c.args.toList.map (ev V s)=args at ha
    have ha':=ha
    unfold abuiltin at ha
    dsimp only at ha
    split at ha <;> try contradiction
    rename_i heq;cases heq
    obtain⟨p,q,hp,e1,e2⟩:=two hargs
    rw [e1,e2] at ha'
    obtain⟨rfl,v,g1,g2⟩:=minmax_ok (P:=P) (ty:=o.type) (hs.ev p) (hs.ev q) (.inl rfl) ha'
    exact ok_value (run _ v w g1 (fun k=>by rw [hop _ hp];rfl)) hs g2
   case max=>
    generalize hargs:c.args.toList.map (ev V s)=args at ha
    have ha':=ha
    unfold abuiltin at ha
    dsimp only at ha
    split at ha <;> try contradiction
    rename_i heq;cases heq
    obtain⟨p,q,hp,e1,e2⟩:=two hargs
    rw [e1,e2] at ha'
    obtain⟨rfl,v,g1,g2⟩:=minmax_ok (P:=P) (ty:=o.type) (hs.ev p) (hs.ev q) (.inr rfl) ha'
    exact ok_value (run _ v w g1 (fun k=>by rw [hop _ hp];rfl)) hs g2
  ·rename_i f hf
   exact absurd hf (hc c f ho)
  ·contradiction
 | makeMap t r=>
  cases r with
  | none=>exact makeMap_ok h hs ho ha
  | some r=>(unfold aop at ha;rw [ho] at ha;dsimp only at ha;contradiction)
 | lookup t m x ok=>exact lookup_ok h hs ho ha
 | mapUpdate t m x y=>exact mapUpdate_ok h hs ho ha
 | _=>(unfold aop at ha;rw [ho] at ha;dsimp only at ha;contradiction)
end Go.Am
end
section
/- Calls of functions that have a contract. -/
namespace Go.Am
open Go
variable {P : Program} {V : Env} {U : Oth} {w0 : World} {W0 : Nat → Prop} {o : Oper} {ρ ρ' : Rho} {s s' : St} {a : Act} {w w' : World} {av : AV}
def Reps(w:World)(W:Nat→Prop)(ρ:Rho):List AV→List Value→Prop
 | [],[]=>True
 | x :: l,v :: m=>Rep w W ρ x v∧Reps w W ρ l m
 | _,_=>False
def emptyAct:Act:={ tmps:=#[],defers:=[] }
def hst(H:List Blk):St:={ tmps:=[],heap:=tagH 0 H,next:=H.length,nt:=0,m:=H.length }
structure CallOk (P:Program) (G:Nat→Option AV) (f:Nat) (run:List AV→List Blk→Option (Bool×AV×List Blk)):Prop where
 there : ∃ fn, P.funcs[f]? = some fn ∧ (fn.name == "runtime.NumGoroutine") = false ∧ fn.body.isNone = false
 does:∀ A H r H',run A H=some (true,r,H') → ∀ (U:Oth) (w:World) (ρ:Rho) (args:Array Value),U.ini=ρ →
  Sim U G w (WrO ρ (tagH 0 H)) ρ (hst H) emptyAct w→Reps w (Wr U ρ (tagH 0 H)) ρ A args.toList →
  Calls P f args w fun e w'=>∃ v ρ',e=.returned v∧Sim U G w (WrO ρ (tagH 0 H)) ρ' (hst H') emptyAct w'∧Rep w' (Wr U ρ' (tagH 0 H')) ρ' r v
theorem mem_iff{n:Nat}:∀ {l:List Nat},mem n l=true↔n∈l
 | []=>by simp [mem]
 | m :: l=>by
  simp only [mem]
  by_cases h:n=m
  ·subst h;simp
  ·have:Nat.beq n m=false:=by rw [Bool.eq_false_iff];intro h';exact h (Nat.eq_of_beq_eq_true h')
   rw [this];simp [h,mem_iff (l:=l)]
theorem numb_lt{n:Nat}:∀ {l:List Nat},n∈l→numb n l < l.length∧l[numb n l]?=some n
 | [],h=>by simp at h
 | m :: l,h=>by
  simp only [numb]
  by_cases e:n=m
  ·subst e;simp
  ·have e2:Nat.beq n m=false:=by rw [Bool.eq_false_iff];intro h';exact e (Nat.eq_of_beq_eq_true h')
   rw [e2]
   have:=numb_lt (l:=l) ((List.mem_cons.1 h).resolve_left e)
   simpa using this
theorem nodupB_ok:∀ {l:List Nat},nodupB l=true→l.Nodup
 | [],_=>List.nodup_nil
 | n :: l,h=>by
  simp only [nodupB] at h
  split at h <;> try contradiction
  rename_i hm
  refine List.nodup_cons.2 ⟨fun h'=>?_,nodupB_ok h⟩
  rw [mem_iff.2 h'] at hm;cases hm
structure Good (roots ids:List Nat) (H:List (Nat×Blk)):Prop where
 nodup:ids.Nodup
 roots:∀ n∈roots,n∈ids
 keys:∀ n∈ids,hasKey n H=true
 closed:∀ n∈ids,∀ k∈(lkH n H).ids,k∈ids
theorem goodIds_ok{roots ids:List Nat}{H:List (Nat×Blk)}(h:goodIds roots ids H=true):Good roots ids H:=by
 simp only [goodIds,Bool.and_eq_true,List.all_eq_true] at h
 obtain⟨h1,h2,h3,h4⟩:=h
 exact⟨nodupB_ok h1,fun n hn=>mem_iff.1 (h2 n hn),fun n hn=>h3 n hn,fun n hn k hk=>mem_iff.1 (h4 n hn k hk)⟩
theorem mem_addNew{n:Nat}:∀ {l acc:List Nat},n∈addNew acc l↔n∈acc∨n∈l
 | [],acc=>by simp [addNew]
 | m :: l,acc=>by
  simp only [addNew]
  split
  ·rename_i h
   rw [mem_addNew,List.mem_cons]
   have:=mem_iff.1 h
   constructor
   ·rintro(h | h)
    ·exact .inl h
    ·exact .inr (.inr h)
   ·rintro(h | h | h)
    ·exact .inl h
    ·exact .inl (h▸this)
    ·exact .inr h
  ·rw [mem_addNew,List.mem_append,List.mem_singleton,List.mem_cons]
   constructor
   ·rintro((h | h) | h)
    ·exact .inl h
    ·exact .inr (.inl h)
    ·exact .inr (.inr h)
   ·rintro(h | h | h)
    ·exact .inl (.inl h)
    ·exact .inl (.inr h)
    ·exact .inr h
theorem lkH_tag:∀ (H:List Blk) (i j:Nat),lkH j (tagH i H)=if i≤j then (H[j-i]?).getD .gone else .gone
 | [],i,j=>by simp [tagH,lkH]
 | b :: H,i,j=>by
  rw [tagH,lkH_put,lkH_tag H (i+1) j]
  by_cases h:j=i
  ·subst h;simp
  ·rw [if_neg h]
   by_cases h2:i+1≤j
   ·rw [if_pos h2,if_pos (by omega),show j-i=(j-(i+1))+1 by omega,List.getElem?_cons_succ]
   ·rw [if_neg h2,if_neg (by omega)]
theorem hasKey_tag:∀ (H:List Blk) (i j:Nat),hasKey j (tagH i H)=(decide (i≤j)&&decide (j < i+H.length))
 | [],i,j=>by
  simp only [tagH,hasKey,List.length_nil]
  by_cases h:i≤j
  ·simp [show ¬ j < i+0 by omega]
  ·simp [h]
 | b :: H,i,j=>by
  rw [tagH,hasKey_put,hasKey_tag H (i+1) j]
  by_cases h:j=i
  ·subst h;simp
  ·simp only [h,decide_false,Bool.false_or,List.length_cons]
   by_cases h2:i+1≤j
   ·simp [h2,show i≤j by omega];omega
   ·simp [h2,show ¬ i≤j by omega]
theorem capsEq_ok:∀ (c d:AVs),capsEq c d=true→c=d
 | .nil,.nil,_=>rfl
 | .nil,.cons _ _ _,h=>by simp [capsEq] at h
 | .cons n v t,.nil,h=>by
  unfold capsEq at h
  split at h <;> contradiction
 | .cons n v t,.cons m x u,h=>by
  unfold capsEq at h
  split at h <;> try contradiction
  rename_i a t1 b u1 e1 e2
  split at h <;> try contradiction
  rename_i hab
  rw [Nat.beq_eq] at hab
  injection e1 with q1 q2 q3
  injection e2 with p1 p2 p3
  rw [← q3,← p3] at h
  rw [capsEq_ok t u h,q1,q2,p1,p2,hab]
theorem keptB_ok{b b':Blk}(h:keptB b b'=true):b=b'∧b≠.gone:=by
 unfold keptB at h
 split at h <;> try contradiction
 split at h <;> try contradiction
 split at h <;> try contradiction
 ·split at h <;> try contradiction
  rename_i hf
  rw [Bool.and_eq_true,Nat.beq_eq,Nat.beq_eq] at hf
  rw [capsEq_ok _ _ h,hf.1,hf.2]
  exact⟨rfl,fun e=>by cases e⟩
 ·split at h <;> try contradiction
  rename_i hf
  rw [Bool.and_eq_true,Nat.beq_eq,Nat.beq_eq] at hf
  rw [hf.1,hf.2]
  exact⟨rfl,fun e=>by cases e⟩
theorem putBackK_eqv(ids:List Nat)(fresh:Nat)(π:Nat→Nat):∀ (l:List Blk) (j:Nat) (H H2:List (Nat×Blk)),(∀ id,lkH id H=lkH id H2)→(∀ id,hasKey id H=hasKey id H2) →
  (∀ id,lkH id (putBack ids fresh π j l H)=lkH id (putBackK ids fresh π j l H2)) ∧ ∀ id,hasKey id (putBack ids fresh π j l H)=hasKey id (putBackK ids fresh π j l H2)
 | [],_,H,H2,h1,h2=>⟨h1,h2⟩
 | b :: l,j,H,H2,h1,h2=>by
  simp only [putBack,putBackK]
  split
  ·rename_i hk
   obtain⟨g1,g2⟩:=keptB_ok hk
   refine putBackK_eqv ids fresh π l (j+1) _ _ (fun id=>?_) (fun id=>?_)
   ·rw [lkH_put]
    by_cases e:id=backOf ids fresh j
    ·rw [if_pos e,e,g1]
    ·rw [if_neg e];exact h1 id
   ·rw [hasKey_put]
    by_cases e:id=backOf ids fresh j
    ·subst e
     have:hasKey (backOf ids fresh j) H2=true:=by
      cases hh:hasKey (backOf ids fresh j) H2 with
      | true=>rfl
      | false=>exact absurd (lkH_none hh) g2
     simp [this]
    ·simp [e,h2 id]
  ·refine putBackK_eqv ids fresh π l (j+1) _ _ (fun id=>?_) (fun id=>?_)
   ·rw [lkH_put,lkH_put,h1 id]
   ·rw [hasKey_put,hasKey_put,h2 id]
theorem lkH_putBack(ids:List Nat)(fresh:Nat)(π:Nat→Nat):∀ (H':List Blk) (j:Nat) (H:List (Nat×Blk)),
  (∀ i k,j≤i→i < j+H'.length→j≤k→k < j+H'.length→backOf ids fresh i=backOf ids fresh k→i=k) →
  (∀ i,j≤i→i < j+H'.length→lkH (backOf ids fresh i) (putBack ids fresh π j H' H)=((H'[i-j]?).getD .gone).ren π) ∧
  (∀ n,(∀ i,j≤i→i < j+H'.length→n≠backOf ids fresh i)→lkH n (putBack ids fresh π j H' H)=lkH n H) ∧
  (∀ n,hasKey n (putBack ids fresh π j H' H)=true↔hasKey n H=true ∨ ∃ i,j≤i∧i < j+H'.length∧n=backOf ids fresh i)
 | [],j,H,_=>⟨fun i h1 h2=>by simp at h2;omega,fun n _=>rfl,fun n=>by
   simp only [putBack,List.length_nil,Nat.add_zero]
   constructor
   ·exact .inl
   ·rintro(h | ⟨i,h1,h2,_⟩)
    ·exact h
    ·omega⟩
 | b :: H',j,H,inj=>by
  simp only [List.length_cons] at inj
  obtain⟨g1,g2,g3⟩:=lkH_putBack ids fresh π H' (j+1) ((backOf ids fresh j,b.ren π) :: H) (fun i k a1 a2 a3 a4 a5=>inj i k (by omega) (by omega) (by omega) (by omega) a5)
  refine⟨fun i h1 h2=>?_,fun n hn=>?_,fun n=>?_⟩
  ·simp only [List.length_cons] at h2
   by_cases e:i=j
   ·subst e
    rw [putBack,g2 _ (fun k k1 k2 e=>by have:=inj i k (by omega) (by omega) (by omega) (by omega) e;omega),lkH_put,if_pos rfl]
    simp
   ·rw [putBack,g1 i (by omega) (by omega),show i-j=(i-(j+1))+1 by omega,List.getElem?_cons_succ]
  ·simp only [List.length_cons] at hn
   rw [putBack,g2 n (fun i h1 h2=>hn i (by omega) (by omega)),lkH_put,if_neg (hn j (Nat.le_refl _) (by omega))]
  ·rw [putBack,g3,hasKey_put]
   simp only [Bool.or_eq_true,decide_eq_true_eq,List.length_cons]
   constructor
   ·rintro((h | h) | ⟨i,h1,h2,h3⟩)
    ·exact .inr ⟨j,by omega,by omega,h⟩
    ·exact .inl h
    ·exact .inr ⟨i,by omega,by omega,h3⟩
   ·rintro(h | ⟨i,h1,h2,h3⟩)
    ·exact .inl (.inr h)
    ·by_cases e:i=j
     ·subst e;exact .inl (.inl h3)
     ·exact .inr ⟨i,by omega,by omega,h3⟩
theorem freeAll_ok:∀ {n id:Nat} {H:List (Nat×Blk)},freeAll id n H=true → ∀ t,t < n→hasKey (id+t) H=false
 | 0,_,_,_,_,h=>by omega
 | n+1,id,H,h,t,ht=>by
  simp only [freeAll] at h
  split at h <;> try contradiction
  rename_i hk
  cases t with
  | zero=>exact hk
  | succ t=>have:=freeAll_ok h t (by omega);rwa [show id+(t+1)=id+1+t by omega]
mutual
theorem hasV_cell:∀ (r:AV) (j:Nat),r.hasV=false→(r.cell j).hasV=false
 | .segs s,j,h=>by simp only [AV.cell];exact hasVL_cell s j (by simpa [AV.hasV] using h)
 | .rI _ _,_,_=>rfl
 | .rB _,_,_=>rfl
 | .rS _,_,_=>rfl
 | .rL _ _,_,h=>by simp [AV.hasV] at h
 | .rT ks xs,j,h=>by
  simp only [AV.cell]
  have hk:∀ k:CK,k.isSl=false → ∀ f,(tval k f).hasV=false:=fun k hk f=>by cases k <;> first | rfl | (simp [CK.isSl] at hk)
  refine hk _ ?_ _
  by_cases hq:j%ks.length < ks.length
  ·rw [List.getD_eq_getElem?_getD,List.getElem?_eq_getElem hq]
   simp only [AV.hasV,List.any_eq_false] at h
   simpa using h _ (List.getElem_mem hq)
  ·rw [List.getD_eq_getElem?_getD,List.getElem?_eq_none (by omega)];rfl
 | .one v,0,h=>by simp only [AV.hasV] at h;exact h
 | .one v,j+1,h=>rfl
 | .undef,_,_=>rfl
 | .bool _,_,_=>rfl
 | .int _ _,_,_=>rfl
 | .str _,_,_=>rfl
 | .agg _ _,_,_=>rfl
 | .tup _,_,_=>rfl
 | .nilp,_,_=>rfl
 | .ptr _ _ _ _ _ _ _,_,_=>rfl
 | .gp _ _ _ _ _ _,_,_=>rfl
 | .ns,_,_=>rfl
 | .own _ _ _,_,_=>rfl
 | .sl _ _ _ _ _ _,_,_=>rfl
 | .vs _ _ _,_,_=>rfl
 | .mp _,_,_=>rfl
 | .nilm,_,_=>rfl
 | .fn _ _,_,_=>rfl
 | .nilf,_,_=>rfl
 | .rM _ _ _ _,_,_=>rfl
 | .lv _,_,_=>rfl
theorem hasVL_cell:∀ (s:AVs) (j:Nat),s.hasVL=false→(s.cellS j).hasV=false
 | .nil,_,_=>rfl
 | .cons n v t,j,h=>by
  simp only [AVs.hasVL,Bool.or_eq_false_iff] at h
  simp only [AVs.cellS]
  split
  ·exact hasV_cell v j h.1
  ·exact hasVL_cell t _ h.2
end
theorem hasVL_nth:∀ (s:AVs) (j:Nat),s.hasVL=false→(s.nth j).hasV=false
 | .nil,_,_=>rfl
 | .cons n v t,0,h=>by simp only [AVs.hasVL,Bool.or_eq_false_iff] at h;exact h.1
 | .cons n v t,j+1,h=>by simp only [AVs.hasVL,Bool.or_eq_false_iff] at h;exact hasVL_nth t j h.2
theorem Rep.noV{W W':Nat→Prop}{x:AV}{v:Value}(h:Rep w W ρ x v)(hv:x.hasV=false):Rep w W' ρ x v:=by
 induction h with
 | undef v=>exact .undef v
 | bool b=>exact .bool b
 | int k n h=>exact .int k n h
 | str s hm=>exact .str s hm
 | agg n r cs hw hr hc' h ih=>exact .agg n r cs hw hr hc' fun j hj=>ih j hj (hasV_cell r j (by simpa [AV.hasV] using hv))
 | tup vs ws hl h ih=>exact .tup vs ws hl fun j hj=>ih j hj (hasVL_nth vs j (by simpa [AV.hasV] using hv))
 | nilp=>exact .nilp
 | ptr id b l i m c rm L hl hi hx hb h0=>exact .ptr id b l i m c rm L hl hi hx hb h0
 | gp=>simp [AV.hasV] at hv
 | ns=>exact .ns
 | own0 id sz a hl=>exact .own0 id sz a hl
 | own id len sz l cap L hl hn hk hcap hS h0 hm=>exact .own id len sz l cap L hl hn hk hcap hS h0 hm
 | sl0 id b lim o sz a hl=>exact .sl0 id b lim o sz a hl
 | sl id b lim o len sz cap L hl h0 hx hb hcap hm hlim hS=>exact .sl id b lim o len sz cap L hl h0 hx hb hcap hm hlim hS
 | vs0=>simp [AV.hasV] at hv
 | vs=>simp [AV.hasV] at hv
 | nilm=>exact .nilm
 | fn f caps cvs hf hl h ih=>exact .fn f caps cvs hf hl fun j hj=>ih j hj (hasVL_nth caps j (by simpa [AV.hasV] using hv))
 | yl l=>exact .yl l
 | nilf=>exact .nilf
 | mp id L hl=>exact .mp id L hl
 | lv n cap a hm=>exact .lv n cap a hm
theorem freezeAll_other:∀ (l:List AV) (s:St) (id:Nat),(∀ x∈l,¬ frozenBy x id)→lkH id (freezeAll s l).heap=lkH id s.heap
 | [],_,_,_=>rfl
 | x :: l,s,id,h=>(freezeAll_other l (freeze s x) id fun y hy=>h y (by simp [hy])).trans (freeze_other (h x (by simp)))
theorem frozenBy_ids{x:AV}{id:Nat}(h:frozenBy x id):id∈x.ids:=by
 cases x <;> simp [frozenBy] at h <;> simp [AV.ids,h]
theorem coerceAll_ok(h:TysOk P V.T)(hs:Sim U V.G w0 W0 ρ s a w)(all:List AV):∀ (ms:List (Option Nat)) (l l':List AV) (us:List Value),coerceAll V s ms l=some l'→(∀ x∈coerced ms l,x∈all) →
  Reps w (Wr U ρ s.heap) ρ l us→Reps w (Wr U ρ (freezeAll s all).heap) ρ l' us
 | [],[],l',us,h1,_,h3=>by simp only [coerceAll,Option.some.injEq] at h1;subst h1;cases us <;> simp [Reps] at h3 ⊢
 | m :: ms,v :: l,l',us,h1,h2,h3=>by
  simp only [coerceAll] at h1
  split at h1 <;> try contradiction
  rename_i v' l2 hv hl
  injection h1 with h1;subst h1
  cases us with
  | nil=>exact h3.elim
  | cons u us=>
   refine⟨?_,coerceAll_ok h hs all ms l l2 us hl (fun x hx=>h2 x ?_) h3.2⟩
   ·cases m with
    | none=>simp only [coerce,Option.some.injEq] at hv;subst hv;exact(hs.freezeAll all).2.1 _ _ h3.1
    | some e=>exact coerce_many h hs (h2 v (by simp [coerced])) h3.1 hv
   ·cases m <;> simp [coerced,hx]
 | [],_ :: _,_,_,h1,_,_=>by simp [coerceAll] at h1
 | _ :: _,[],_,_,h1,_,_=>by simp [coerceAll] at h1
def rho0(ρ:Rho)(ids:List Nat):Rho:=⟨fun j=>match ids[j]? with
 | some id=>ρ id
 | none=>none,fun _=>none⟩
theorem isO_kind{k:IntKind}{kn:Nat}{v:MV}{es:List (List Int×List Int)}(h:(AV.rM k kn v es).isO=false):v.okind=none:=by
 cases v <;> first | rfl | cases h
def Pas(ρ:Rho)(ids:List Nat)(H:List (Nat×Blk))(b:Nat):Prop:=∃ id∈ids,∃ n r c L,lkH id H=.cells n r c∧ρ id=some (some L)∧L.b=b
def others(U:Oth)(ρ:Rho)(ids:List Nat)(H:List (Nat×Blk))(w:World)(hU:∀ b,U.v b→b < w.heap.size∧¬ Pas ρ ids H b)(hW:∀ b,WrO ρ H b→b < w.heap.size):Oth where
 v:=fun b=>U.v b∨(WrO ρ H b∧¬ Pas ρ ids H b)
 n:=fun b=>b < w.heap.size∧¬ Pas ρ ids H b
 sub:=fun b hb=>by
  rcases hb with hb | ⟨hb,hp⟩
  ·exact hU b hb
  ·exact⟨hW b hb,hp⟩
 ini:=rho0 ρ ids
theorem ren_inv{b:Blk}{π:Nat→Nat}{n:Nat}{r:AV}{c:Bool}(h:b.ren π=.cells n r c):∃ r0,b=.cells n r0 c∧r=r0.ren π:=by
 cases b with
 | cells n' r' c'=>simp only [Blk.ren,Blk.cells.injEq] at h;obtain⟨rfl,rfl,rfl⟩:=h;exact⟨r',rfl,rfl⟩
 | gone=>simp [Blk.ren] at h
section
variable {ids roots : List Nat} {H : List (Nat × Blk)}
theorem small_lk(ids:List Nat)(H:List (Nat×Blk))(π:Nat→Nat)(j:Nat):lkH j (tagH 0 (ids.map fun n=>(lkH n H).ren π))=match ids[j]? with | some id=>(lkH id H).ren π | none=>.gone:=by
 rw [lkH_tag]
 simp only [Nat.zero_le,if_true,Nat.sub_zero,List.getElem?_map]
 cases ids[j]? <;> rfl
theorem small_cells{n:Nat}{r:AV}{c:Bool}{π:Nat→Nat}{j:Nat}(h:lkH j (tagH 0 (ids.map fun n=>(lkH n H).ren π))=.cells n r c):∃ id r0,ids[j]?=some id∧id∈ids∧lkH id H=.cells n r0 c∧r=r0.ren π:=by
 rw [small_lk] at h
 split at h
 ·rename_i id hid
  obtain⟨r0,h1,h2⟩:=ren_inv h
  exact⟨id,r0,hid,List.mem_of_getElem? hid,h1,h2⟩
 ·cases h
theorem rho0_some{j:Nat}{id:Nat}(h:ids[j]?=some id):rho0 ρ ids j=ρ id:=by simp [rho0,h]
theorem rho0_numb{id:Nat}(h:id∈ids):rho0 ρ ids (numb id ids)=ρ id:=rho0_some (numb_lt h).2
theorem small_wr{π:Nat→Nat}{b:Nat}(h:WrO (rho0 ρ ids) (tagH 0 (ids.map fun n=>(lkH n H).ren π)) b):∃ id∈ids,∃ n r L,lkH id H=.cells n r true∧ρ id=some (some L)∧L.b=b:=by
 rcases h with ⟨M,hx⟩ | ⟨j,n,r,L,h1,h2,h3⟩
 ·cases hx
 obtain⟨id,r0,g1,g2,g3,g4⟩:=small_cells h1
 rw [rho0_some g1] at h2
 exact⟨id,g2,n,r0,L,g3,h2,h3⟩
theorem small_wr'{π:Nat→Nat}{b:Nat}(h:WrO (rho0 ρ ids) (tagH 0 (ids.map fun n=>(lkH n H).ren π)) b):WrO ρ H b:=by
 obtain⟨id,_,n,r,L,h1,h2,h3⟩:=small_wr h
 exact .inr ⟨id,n,r,L,h1,h2,h3⟩
def rhoN(ρ:Rho)(ids:List Nat):Rho:=⟨(rho0 ρ ids).f,ρ.x⟩
theorem rhoN_some{j:Nat}{id:Nat}(h:ids[j]?=some id):rhoN ρ ids j=ρ id:=rho0_some h
theorem rhoN_numb{id:Nat}(h:id∈ids):rhoN ρ ids (numb id ids)=ρ id:=rho0_numb h
theorem small_wrN{π:Nat→Nat}{b:Nat}(h:WrO (rhoN ρ ids) (tagH 0 (ids.map fun n=>(lkH n H).ren π)) b):WrO ρ H b:=by
 rcases h with hx | h
 ·exact .inl hx
 ·exact small_wr' (.inr h)
theorem Sim.small(hs:Sim U V.G w0 W0 ρ s a w)(hg:Good roots ids s.heap)(hO:∀ id∈ids,(lkH id s.heap).isO=false)(hU hW):
  Sim (others U ρ ids s.heap w hU hW) V.G w (WrO (rho0 ρ ids) (tagH 0 (ids.map fun n=>(lkH n s.heap).ren fun n=>numb n ids))) (rho0 ρ ids) (hst (ids.map fun n=>(lkH n s.heap).ren fun n=>numb n ids)) emptyAct w ∧
  ∀ x v,Rep w (Wr U ρ s.heap) ρ x v→(∀ id∈x.ids,id∈ids)→Rep w (Wr (others U ρ ids s.heap w hU hW) (rho0 ρ ids) (tagH 0 (ids.map fun n=>(lkH n s.heap).ren fun n=>numb n ids))) (rho0 ρ ids) (x.ren fun n=>numb n ids) v:=by
 have key:∀ x v,Rep w (Wr U ρ s.heap) ρ x v→(∀ id∈x.ids,id∈ids)→Rep w (Wr (others U ρ ids s.heap w hU hW) (rho0 ρ ids) (tagH 0 (ids.map fun n=>(lkH n s.heap).ren fun n=>numb n ids))) (rho0 ρ ids) (x.ren fun n=>numb n ids) v:=by
  intro x v hx hid
  have h1:=hx.ren (ρ':=rho0 ρ ids) (fun n=>numb n ids) (fun id hi y hy=>by rw [rho0_numb (hid id hi)];exact hy)
  exact h1.mono (fun _ _ _ _=>rfl) (fun b hlt hb hb'=>hb (by
   rcases hb' with (hb' | hb') | hb'
   ·exact .inl hb'
   ·exact .inr hb'.1
   ·exact .inr (small_wr' hb'))) (fun _ _ h=>h)
 refine⟨?_,key⟩
 exact {
  tm:=fun t=>by simp only [hst,lk];exact .undef _
  nt:=rfl
  df:=rfl
  bl:=fun j n r b hl=>by
   obtain⟨id,r0,g1,g2,g3,rfl⟩:=small_cells hl
   have hb:=hs.bl id n r0 b g3
   obtain⟨q1,q2,q3⟩:=row_renM (fun n=>numb n ids) r0 hb.wf
   refine⟨q1,q2.trans hb.size,?_,fun k kn v es e=>?_,fun t ht=>?_⟩ <;> rw [rho0_some g1]
   rotate_left
   ·obtain⟨L,l1,l2⟩:=hb.map k kn v es (ren_rM e)
    obtain⟨ms,clock,m1,m2⟩:=l2.ex
    exact⟨L,l1,⟨⟨ms,clock,m1,m2.mono fun xs u hx=>by
     have:=key _ _ hx (fun i hi=>by rw [mval_ids] at hi;simp at hi)
     rwa [mval_ren] at this⟩,l2.keys,l2.nd,l2.bo,Hid.no (by
      have:=hO id g2
      rw [g3] at this
      have er:=ren_rM e
      subst er
      exact isO_kind this)⟩⟩
   ·exact hb.typ t (by rw [tag_ren] at ht;exact ht)
   rcases hb.lies with hb1 | ⟨L,l1,l2,l3,l4,l5⟩
   ·exact .inl hb1
   ·refine .inr ⟨L,l1,l2,fun k hk=>?_,(fun e h=>l4 e (by rwa [isM_ren] at h)),l5⟩
    obtain⟨v,e1,e2⟩:=l3 k hk
    refine⟨v,e1,?_⟩
    have q:=q3 k (by rw [hb.size];exact hk)
    rw [q.1]
    exact key _ _ e2 fun i hi=>hg.closed id g2 i (by rw [g3];exact q.2 i hi)
  sep:=fun j j' n r n' r' b' L L' h1 h2 h3 h4 h5=>by
   obtain⟨id,r0,g1,g2,g3,rfl⟩:=small_cells h1
   obtain⟨id',r0',g1',g2',g3',rfl⟩:=small_cells h2
   rw [rho0_some g1] at h3
   rw [rho0_some g1'] at h4
   have e:=hs.sep id id' n r0 n' r0' b' L L' g3 g3' h3 h4 h5
   subst e
   exact(List.getElem?_inj (List.getElem?_eq_some_iff.1 g1).1 hg.nodup).1 (g1.trans g1'.symm)
  dom:=fun j hj=>by
   simp only [hst,hasKey_tag,List.length_map]
   have:j < ids.length:=by
    rcases Nat.lt_or_ge j ids.length with h | h
    ·exact h
    ·exact absurd (by simp [rho0,List.getElem?_eq_none h]) hj
   simp [this]
  fr:=fun _ _ _=>rfl
  wo:=fun b hb=>.inl hb
  sz:=Nat.le_refl _
  gl:=fun g r h1 h2=>by
   obtain⟨g1,g2,g3,vals,g4⟩:=hs.gl g r h1 h2
   refine⟨g1,Nat.lt_of_lt_of_le g2 hs.sz,fun hw=>?_,vals,fun j hj=>⟨?_,(g4 j hj).2⟩⟩
   ·exact(hs.wo g (small_wr' hw)).elim g3 (fun h=>by omega)
   ·rw [cell_of_heap (hs.fr g g2 g3)];exact(g4 j hj).1
  uo:=fun b hb=>⟨hb.1,fun hw=>hb.2 (by
   obtain⟨id,g1,n,r,L,g2,g3,g4⟩:=small_wr hw
   exact⟨id,g1,n,r,true,L,g2,g3,g4⟩)⟩
  ug:=fun g r h1 h2 hv=>by
   obtain⟨g1,g2,g3,_⟩:=hs.gl g r h1 h2
   rcases hv with hv | hv
   ·exact hs.ug g r h1 h2 hv
   ·exact(hs.wo g hv.1).elim g3 (fun h=>by omega)
  su:=fun j n r b L h1 h2 hn=>by
   obtain⟨id,r0,g1,g2,g3,rfl⟩:=small_cells h1
   rw [rho0_some g1] at h2
   exact hn.2 ⟨id,g2,n,r0,b,L,g3,h2,rfl⟩
  ini:=fun _ _ h=>h
  im:=fun j hj=>by
   simp only [hst,List.length_map]
   rcases Nat.lt_or_ge j ids.length with h | h
   ·exact h
   ·exact absurd (by simp [others,rho0,List.getElem?_eq_none h]) hj
  sm:=WSame.refl _
  xk:=⟨(fun _ _ h=>by cases h),(fun _ _ _ _ _ _ _ h=>by cases h),(fun _ _ h=>by cases h)⟩ }
end
section
variable {ids roots : List Nat}
open Classical in
noncomputable def rhoB(ρ ρ':Rho)(m:Nat)(back:Nat→Nat):Rho:=⟨fun n=>if h:∃ j,j < m∧back j=n then ρ' (Classical.choose h) else ρ n,ρ.x⟩
theorem rhoB_in{m:Nat}{back:Nat→Nat}(inj:∀ i k,i < m→k < m→back i=back k→i=k){j:Nat}(hj:j < m):rhoB ρ ρ' m back (back j)=ρ' j:=by
 show(if h:∃ i,i < m∧back i=back j then ρ' (Classical.choose h) else ρ (back j))=_
 have h:∃ i,i < m∧back i=back j:=⟨j,hj,rfl⟩
 rw [dif_pos h]
 rw [inj _ j (Classical.choose_spec h).1 hj (Classical.choose_spec h).2]
theorem rhoB_out{m n:Nat}{back:Nat→Nat}(h:∀ j,j < m→n≠back j):rhoB ρ ρ' m back n=ρ n:=by
 show(if h:∃ i,i < m∧back i=n then ρ' (Classical.choose h) else ρ n)=_
 rw [dif_neg]
 rintro⟨j,h1,h2⟩
 exact h j h1 h2.symm
theorem backOf_inj{fresh m:Nat}{H:List (Nat×Blk)}(hg:Good roots ids H)(hf:∀ t,t < m-ids.length→hasKey (fresh+t) H=false):
  ∀ i k,i < m→k < m→backOf ids fresh i=backOf ids fresh k→i=k:=by
 intro i k hi hk h
 unfold backOf at h
 have key:∀ i,i < ids.length → ∃ id,ids[i]?=some id∧hasKey id H=true:=fun i hi=>⟨ids[i],List.getElem?_eq_getElem hi,hg.keys _ (List.getElem_mem hi)⟩
 by_cases h1:i < ids.length <;> by_cases h2:k < ids.length
 ·obtain⟨a,a1,a2⟩:=key i h1
  obtain⟨b,b1,b2⟩:=key k h2
  simp only [a1,b1] at h
  exact(List.getElem?_inj h1 hg.nodup).1 (by rw [a1,b1,h])
 ·obtain⟨a,a1,a2⟩:=key i h1
  simp only [a1,List.getElem?_eq_none (show ids.length≤k by omega)] at h
  rw [h,hf _ (by omega)] at a2;cases a2
 ·obtain⟨a,a1,a2⟩:=key k h2
  simp only [a1,List.getElem?_eq_none (show ids.length≤i by omega)] at h
  rw [← h,hf _ (by omega)] at a2;cases a2
 ·simp only [List.getElem?_eq_none (show ids.length≤i by omega),List.getElem?_eq_none (show ids.length≤k by omega)] at h
  omega
theorem backOf_old{fresh j id:Nat}(h:ids[j]?=some id):backOf ids fresh j=id:=by simp [backOf,h]
theorem Sim.behind(hb:Sim U V.G w0 W0 ρ s a w){U':Oth}{Hs H':List Blk}{fresh:Nat}(hg:Good roots ids s.heap)(hHs:Hs=ids.map fun n=>(lkH n s.heap).ren fun n=>numb n ids)
  (hn:∀ b,U.n b→U'.n b∨Pas ρ ids s.heap b) (hn2:∀ b,b < w.heap.size→¬ Pas ρ ids s.heap b→U'.n b)
  (hlen:ids.length≤H'.length) (hf:∀ t,t < H'.length-ids.length→hasKey (fresh+t) s.heap=false)
  (hi:Sim U' V.G w (WrO (rho0 ρ ids) (tagH 0 Hs)) ρ' (hst H') emptyAct w') (hx:∀ id x,rho0 ρ ids id=some x→ρ' id=some x)
  (hM:(∀ b,¬ Wr U' ρ' (tagH 0 H') b→¬ Wr U ρ s.heap b∨WrO (rho0 ρ ids) (tagH 0 Hs) b) ∨ ∀ b∈H',b.hasV=false) (hO':∀ b∈H',b.isO=false) :
  Sim U V.G w0 W0 (rhoB ρ ρ' H'.length (backOf ids fresh)) { s with heap:=putBack ids fresh (backOf ids fresh) 0 H' s.heap } a w' ∧
  (∀ x v,Rep w (Wr U ρ s.heap) ρ x v→Rep w' (Wr U (rhoB ρ ρ' H'.length (backOf ids fresh)) (putBack ids fresh (backOf ids fresh) 0 H' s.heap)) (rhoB ρ ρ' H'.length (backOf ids fresh)) x v) ∧
  (∀ x v,Rep w' (Wr U' ρ' (tagH 0 H')) ρ' x v→((∀ b,¬ Wr U' ρ' (tagH 0 H') b→¬ Wr U ρ s.heap b∨WrO (rho0 ρ ids) (tagH 0 Hs) b)∨x.hasV=false) →
   Rep w' (Wr U (rhoB ρ ρ' H'.length (backOf ids fresh)) (putBack ids fresh (backOf ids fresh) 0 H' s.heap)) (rhoB ρ ρ' H'.length (backOf ids fresh)) (x.ren (backOf ids fresh)) v):=by
 subst hHs
 have inj:=backOf_inj hg hf
 obtain⟨p1,p2,p3⟩:=lkH_putBack ids fresh (backOf ids fresh) H' 0 s.heap (fun i k _ h1 _ h2 h=>inj i k (by omega) (by omega) h)
 simp only [Nat.zero_add,Nat.zero_le,true_implies,Nat.sub_zero] at p1 p2 p3
 have hin:∀ j,lkH j (tagH 0 H')=(H'[j]?).getD .gone:=fun j=>by rw [lkH_tag];simp
 have hR1:∀ j,j < H'.length→rhoB ρ ρ' H'.length (backOf ids fresh) (backOf ids fresh j)=ρ' j:=fun j hj=>rhoB_in inj hj
 have hR2:∀ n,(∀ j,j < H'.length→n≠backOf ids fresh j)→rhoB ρ ρ' H'.length (backOf ids fresh) n=ρ n:=fun n h=>rhoB_out h
 have hkey:∀ id,ρ id≠none→hasKey id s.heap=true:=hb.dom
 have hR3:∀ n x,ρ n=some x→rhoB ρ ρ' H'.length (backOf ids fresh) n=some x:=by
  intro n x hnx
  by_cases hh:∃ j,j < H'.length∧n=backOf ids fresh j
  ·obtain⟨j,hj,rfl⟩:=hh
   rw [hR1 j hj]
   by_cases hjl:j < ids.length
   ·have e:ids[j]?=some ids[j]:=List.getElem?_eq_getElem hjl
    rw [backOf_old e] at hnx
    exact hx j x (by rw [rho0_some e];exact hnx)
   ·have:=hkey _ (by rw [hnx];simp:ρ (backOf ids fresh j)≠none)
    simp only [backOf,List.getElem?_eq_none (show ids.length≤j by omega)] at this
    rw [hf _ (by omega)] at this;cases this
  ·rw [hR2 n fun j hj e=>hh ⟨j,hj,e⟩];exact hnx
 have hR4:∀ j x,ρ' j=some x→rhoB ρ ρ' H'.length (backOf ids fresh) (backOf ids fresh j)=some x:=by
  intro j x hj
  have:=hi.dom j (by rw [hj];simp)
  simp only [hst,hasKey_tag,Bool.and_eq_true,decide_eq_true_eq] at this
  rw [hR1 j (by omega)];exact hj
 have hid:∀ n,(∃ j,j < H'.length∧n=backOf ids fresh j) ∨ ∀ j,j < H'.length→n≠backOf ids fresh j:=fun n=>by
  by_cases hh:∃ j,j < H'.length∧n=backOf ids fresh j
  ·exact .inl hh
  ·exact .inr fun j hj e=>hh ⟨j,hj,e⟩
 have notids:∀ n,(∀ j,j < H'.length→n≠backOf ids fresh j)→n∉ids:=fun n hn' hm=>by
  obtain⟨j,hj,e⟩:=List.getElem_of_mem hm
  exact hn' j (by omega) (by rw [backOf_old (List.getElem?_eq_getElem hj)];exact e.symm)
 have wr:∀ b,WrO (rhoB ρ ρ' H'.length (backOf ids fresh)) (putBack ids fresh (backOf ids fresh) 0 H' s.heap) b→WrO ρ' (tagH 0 H') b∨(∃ M,ρ.x b=some M) ∨ ∃ id n r L,id∉ids∧lkH id s.heap=.cells n r true∧ρ id=some (some L)∧L.b=b:=by
  rintro b (hx | ⟨id,n,r,L,h1,h2,h3⟩)
  ·exact .inr (.inl hx)
  rcases hid id with ⟨j,hj,rfl⟩ | hout
  ·rw [p1 j hj] at h1
   obtain⟨r0,e1,e2⟩:=ren_inv h1
   rw [hR1 j hj] at h2
   exact .inl (.inr ⟨j,n,r0,L,by rw [hin,e1],h2,h3⟩)
  ·rw [p2 id hout] at h1
   rw [hR2 id hout] at h2
   exact .inr (.inr ⟨id,n,r,L,notids id hout,h1,h2,h3⟩)
 have hxs:∀ b M,ρ.x b=some M→¬ Pas ρ ids s.heap b:=by
  rintro b M hx ⟨id,_,n,r,c,L,g1,g2,g3⟩
  exact hb.xk.s b M id n r c L hx g1 g2 g3
 have hfr:∀ b,b < w.heap.size→¬ WrO ρ s.heap b→w'.heap[b]?=w.heap[b]?:=fun b hlt hb'=>hi.fr b hlt fun hw=>hb' (small_wr' hw)
 have wo:∀ b,WrO (rhoB ρ ρ' H'.length (backOf ids fresh)) (putBack ids fresh (backOf ids fresh) 0 H' s.heap) b→WrO ρ s.heap b∨w.heap.size≤b:=fun b h=>by
  rcases wr b h with h | hx | ⟨id,n,r,L,_,h1,h2,h3⟩
  ·rcases hi.wo b h with h | h
   ·exact .inl (small_wr' h)
   ·exact .inr h
  ·exact .inl (.inl hx)
  ·exact .inl (.inr ⟨id,n,r,L,h1,h2,h3⟩)
 have hV:∀ x v,Rep w' (Wr U' ρ' (tagH 0 H')) ρ' x v→((∀ b,¬ Wr U' ρ' (tagH 0 H') b→¬ Wr U ρ s.heap b∨WrO (rho0 ρ ids) (tagH 0 (ids.map fun n=>(lkH n s.heap).ren fun n=>numb n ids)) b)∨x.hasV=false) →
   Rep w' (Wr U (rhoB ρ ρ' H'.length (backOf ids fresh)) (putBack ids fresh (backOf ids fresh) 0 H' s.heap)) (rhoB ρ ρ' H'.length (backOf ids fresh)) (x.ren (backOf ids fresh)) v:=by
  intro x v hx' hc
  refine Rep.ren (ρ:=ρ') ?_ _ fun id _ y hy=>hR4 id y hy
  rcases hc with hc | hc
  ·refine hx'.mono (fun _ _ _ _=>rfl) (fun b hlt hb1 hb2=>?_) (fun _ _ h=>h)
   rcases hb2 with hb2 | hb2
   ·rcases hc b hb1 with h | h
    ·exact h (.inl hb2)
    ·obtain⟨id,hm,n,r,L,g1,g2,g3⟩:=small_wr h
     exact hb.su id n r true L g1 g2 (g3▸U.sub _ hb2)
   ·rcases wr b hb2 with h | ⟨M,hx⟩ | ⟨id,n,r,L,h0,h1,h2,h3⟩
    ·exact hb1 (.inr h)
    ·rcases hc b hb1 with h | h
     ·exact h (.inr (.inl ⟨M,hx⟩))
     ·obtain⟨id2,hm,n2,r2,L2,g1,g2,g3⟩:=small_wr h
      exact hxs b M hx ⟨id2,hm,n2,r2,true,L2,g1,g2,g3⟩
    ·rcases hc b hb1 with h | h
     ·exact h (.inr (.inr ⟨id,n,r,L,h1,h2,h3⟩))
     ·obtain⟨id2,hm,n2,r2,L2,g1,g2,g3⟩:=small_wr h
      exact h0 (hb.sep id2 id n2 r2 n r true L2 L g1 h1 g2 h2 (g3.trans h3.symm)▸hm)
  ·exact hx'.noV hc
 refine⟨?_,fun x v hx'=>hx'.step hfr wo hR3,hV⟩
 refine hb.step hfr wo hR3 hi.sz hi.sm ?_ ?_ ?_ ?_ ⟨?_,?_,?_⟩
 ·intro id n r b hl
  rcases hid id with ⟨j,hj,rfl⟩ | hout
  ·rw [p1 j hj] at hl
   obtain⟨r0,e1,rfl⟩:=ren_inv hl
   have hbl:=hi.bl j n r0 b (by show lkH j (tagH 0 H')=_;rw [hin,e1])
   obtain⟨q1,q2,q3⟩:=row_renM (backOf ids fresh) r0 hbl.wf
   have hmem:Blk.cells n r0 b∈H':=by
    have hj':H'[j]?=some H'[j]:=List.getElem?_eq_getElem hj
    rw [hj'] at e1
    simp only [Option.getD_some] at e1
    rw [← e1];exact List.getElem_mem hj
   refine⟨q1,q2.trans hbl.size,?_,fun k kn v es e=>?_,fun t ht=>?_⟩ <;> rw [hR1 j hj]
   rotate_left
   ·have er:=ren_rM e
    obtain⟨L,l1,l2⟩:=hbl.map k kn v es er
    obtain⟨ms,clock,m1,m2⟩:=l2.ex
    exact⟨L,l1,⟨⟨ms,clock,m1,m2.mono fun xs u hx=>by
     have:=hV _ _ hx (by
      rcases hM with hM | hM
      ·exact .inl hM
      ·refine .inr (mval_noV ?_ xs)
       have:=hM _ hmem
       rw [er] at this
       exact this)
     rwa [mval_ren] at this⟩,l2.keys,l2.nd,l2.bo,Hid.no (by
      have:=hO' _ hmem
      rw [er] at this
      exact isO_kind this)⟩⟩
   ·exact hbl.typ t (by rw [tag_ren] at ht;exact ht)
   rcases hbl.lies with h1 | ⟨L,l1,l2,l3,l4,l5⟩
   ·exact .inl h1
   ·refine .inr ⟨L,l1,l2,fun k hk=>?_,(fun e h=>l4 e (by rwa [isM_ren] at h)),l5⟩
    obtain⟨v,e2,e3⟩:=l3 k hk
    refine⟨v,e2,?_⟩
    rw [(q3 k (by rw [hbl.size];exact hk)).1]
    refine hV _ _ e3 ?_
    rcases hM with hM | hM
    ·exact .inl hM
    ·refine .inr (hasV_cell r0 k ?_)
     have hmem:Blk.cells n r0 b∈H':=by
      have hj':H'[j]?=some H'[j]:=List.getElem?_eq_getElem hj
      rw [hj'] at e1
      simp only [Option.getD_some] at e1
      rw [← e1];exact List.getElem_mem hj
     exact hM _ hmem
  ·rw [p2 id hout] at hl
   refine(hb.bl id n r b hl).keep hfr wo hR3 hi.sz (fun L hL hlt=>hi.fr _ hlt fun hw=>?_) (fun L hL c hc=>⟨hi.fr _ (hb.xk.l _ _ hc) fun hw=>by
    obtain⟨id2,hm,n2,r2,L2,g1,g2,g3⟩:=small_wr hw
    exact hxs c _ hc ⟨id2,hm,n2,r2,true,L2,g1,g2,g3⟩,rfl⟩)
   obtain⟨id2,hm,n2,r2,L2,g1,g2,g3⟩:=small_wr hw
   have:=hb.sep id2 id n2 r2 n r b L2 L g1 hl g2 hL g3
   exact notids id hout (this▸hm)
 ·intro i i' n1 r1 n2 r2 b2 L1 L2 h1 h2 h3 h4 h5
  rcases hid i with ⟨j,hj,rfl⟩ | ho1 <;> rcases hid i' with ⟨j',hj',rfl⟩ | ho2
  ·rw [p1 j hj] at h1
   rw [p1 j' hj'] at h2
   obtain⟨r1',e1,_⟩:=ren_inv h1
   obtain⟨r2',e2,_⟩:=ren_inv h2
   rw [hR1 j hj] at h3
   rw [hR1 j' hj'] at h4
   rw [hi.sep j j' n1 r1' n2 r2' b2 L1 L2 (by show lkH j (tagH 0 H')=_;rw [hin,e1]) (by show lkH j' (tagH 0 H')=_;rw [hin,e2]) h3 h4 h5]
  ·rw [p1 j hj] at h1
   obtain⟨r1',e1,_⟩:=ren_inv h1
   rw [hR1 j hj] at h3
   rw [p2 i' ho2] at h2
   rw [hR2 i' ho2] at h4
   have hlt:=hb.loc_lt h2 h4
   rcases hi.wo L1.b (.inr ⟨j,n1,r1',L1,by show lkH j (tagH 0 H')=_;rw [hin,e1],h3,rfl⟩) with hw | hw
   ·obtain⟨id2,hm,n3,r3,L3,g1,g2,g3⟩:=small_wr hw
    have:=hb.sep id2 i' n3 r3 n2 r2 b2 L3 L2 g1 h2 g2 h4 (g3.trans h5)
    exact absurd (this▸hm) (notids i' ho2)
   ·omega
  ·rw [p1 j' hj'] at h2
   obtain⟨r2',e2,_⟩:=ren_inv h2
   rw [hR1 j' hj'] at h4
   rw [p2 i ho1] at h1
   rw [hR2 i ho1] at h3
   have hlt:=hb.loc_lt h1 h3
   by_cases hp:Pas ρ ids s.heap L2.b
   ·obtain⟨id2,hm,n3,r3,c3,L3,g1,g2,g3⟩:=hp
    have:=hb.sep i id2 n1 r1 n3 r3 c3 L1 L3 h1 g1 h3 g2 (h5.trans g3.symm)
    exact absurd (this▸hm) (notids i ho1)
   ·exact absurd (hn2 L2.b (by omega) hp) (hi.su j' n2 r2' b2 L2 (by show lkH j' (tagH 0 H')=_;rw [hin,e2]) h4)
  ·rw [p2 i ho1] at h1
   rw [p2 i' ho2] at h2
   rw [hR2 i ho1] at h3
   rw [hR2 i' ho2] at h4
   exact hb.sep i i' n1 r1 n2 r2 b2 L1 L2 h1 h2 h3 h4 h5
 ·intro id hne
  rw [p3]
  rcases hid id with ⟨j,hj,rfl⟩ | hout
  ·exact .inr ⟨j,trivial,hj,rfl⟩
  ·rw [hR2 id hout] at hne;exact .inl (hb.dom id hne)
 ·intro id n r b L h1 h2 hU
  rcases hid id with ⟨j,hj,rfl⟩ | hout
  ·rw [p1 j hj] at h1
   obtain⟨r0,e1,_⟩:=ren_inv h1
   rw [hR1 j hj] at h2
   rcases hn L.b hU with hU' | ⟨id2,hm,n3,r3,c3,L3,g1,g2,g3⟩
   ·exact hi.su j n r0 b L (by show lkH j (tagH 0 H')=_;rw [hin,e1]) h2 hU'
   ·exact hb.su id2 n3 r3 c3 L3 g1 g2 (g3▸hU)
  ·rw [p2 id hout] at h1
   rw [hR2 id hout] at h2
   exact hb.su id n r b L h1 h2 hU
 ·intro b M hx
  exact Nat.lt_of_lt_of_le (hb.xk.l b M hx) hi.sz
 ·intro b M id n r c L hx h1 h2
  have hx':ρ.x b=some M:=hx
  rcases hid id with ⟨j,hj,rfl⟩ | hout
  ·rw [p1 j hj] at h1
   obtain⟨r0,e1,_⟩:=ren_inv h1
   rw [hR1 j hj] at h2
   intro e
   exact hi.su j n r0 c L (by show lkH j (tagH 0 H')=_;rw [hin,e1]) h2 (e▸hn2 b (hb.xk.l b M hx') (hxs b M hx'))
  ·rw [p2 id hout] at h1
   rw [hR2 id hout] at h2
   exact hb.xk.s b M id n r c L hx' h1 h2
 ·exact fun b M hx=>hb.xk.u b M hx
end
theorem Reps.length{W:Nat→Prop}:∀ {l:List AV} {m:List Value},Reps w W ρ l m→l.length=m.length
 | [],[],_=>rfl
 | x :: l,v :: m,h=>by simp [Reps.length h.2]
 | [],_ :: _,h=>h.elim
 | _ :: _,[],h=>h.elim
theorem Reps.append{W:Nat→Prop}:∀ {l l':List AV} {m m':List Value},Reps w W ρ l m→Reps w W ρ l' m'→Reps w W ρ (l++l') (m++m')
 | [],_,[],_,_,h=>h
 | x :: l,_,v :: m,_,h,h'=>⟨h.1,Reps.append h.2 h'⟩
 | [],_,_ :: _,_,h,_=>h.elim
 | _ :: _,_,[],_,h,_=>h.elim
theorem Reps.of_ev(hs:Sim U V.G w0 W0 ρ s a w):∀ (l:List Operand),Reps w (Wr U ρ s.heap) ρ (l.map (ev V s)) (l.map a.eval)
 | []=>trivial
 | x :: l=>⟨hs.ev x,Reps.of_ev hs l⟩
theorem Reps.of_nth{W:Nat→Prop}:∀ (s:AVs) (l:List Value),s.len=l.length→(∀ j,j < s.len→Rep w W ρ (s.nth j) (l.getD j Go.undef))→Reps w W ρ s.toList l
 | .nil,[],_,_=>trivial
 | .nil,_ :: _,h,_=>by simp [AVs.len] at h
 | .cons n v t,[],h,_=>by simp [AVs.len] at h
 | .cons n v t,x :: l,h,hr=>⟨hr 0 (by simp [AVs.len]),Reps.of_nth t l (by simpa [AVs.len] using h) fun j hj=>hr (j+1) (by simp [AVs.len];omega)⟩
theorem Reps.map{W W':Nat→Prop}{ρ':Rho}{f:AV→AV}:∀ {l:List AV} {m:List Value},Reps w W ρ l m→(∀ x∈l,∀ v,Rep w W ρ x v→Rep w W' ρ' (f x) v)→Reps w W' ρ' (l.map f) m
 | [],[],_,_=>trivial
 | x :: l,v :: m,h,hf=>⟨hf x (by simp) v h.1,Reps.map h.2 fun y hy=>hf y (by simp [hy])⟩
 | [],_ :: _,h,_=>h.elim
 | _ :: _,[],h,_=>h.elim
def EOk(P:Program)(V:Env):Prop:=∀ f modes run,V.E f=some (modes,run)→CallOk P V.G f run
theorem acall_ok(h:TysOk P V.T)(hE:EOk P V)(hs:Sim U V.G w0 W0 ρ s a w){i f:Nat}{args:List AV}{us:Array Value}(hr:Reps w (Wr U ρ s.heap) ρ args us.toList)(ha:acall V i f args s=some (true,av,s')):
  Calls P f us w fun e w'=>∃ v ρ',e=.returned v∧Sim U V.G w0 W0 ρ' s' a w'∧Rep w' (Wr U ρ' s'.heap) ρ' av v:=by
 unfold acall at ha
 split at ha <;> try contradiction
 rename_i modes run hf
 have hC:=hE f modes run hf
 split at ha <;> try contradiction
 rename_i args' hco
 dsimp only at ha
 generalize hroots:addNew [] (args'.flatMap AV.ids)=roots at ha
 generalize hids:reach s.heap 64 roots roots=ids at ha
 split at ha <;> try contradiction
 rename_i hgood
 rw [Bool.and_eq_true,Bool.and_eq_true] at hgood
 obtain⟨hgood1,hgood2,hgood3⟩:=hgood
 have hgood:=And.intro hgood1 hgood2
 have hg:=goodIds_ok hgood.1
 have hnot:∀ x∈coerced modes args,∀ id∈ids,¬ frozenBy x id:=fun x hx id hid hfz=>by
  have h1:=List.all_eq_true.1 hgood.2 id (List.mem_flatMap.2 ⟨x,hx,frozenBy_ids hfz⟩)
  rw [mem_iff.2 hid] at h1;simp at h1
 split at ha <;> try contradiction
 rename_i pre r H' hrun
 split at ha <;> try contradiction
 rename_i hlen
 rw [Bool.and_eq_true,Bool.and_eq_true,Bool.and_eq_true,Nat.ble_eq] at hlen
 have hfree:=freeAll_ok hlen.2.2.1
 have hO':∀ b∈H',b.isO=false:=fun b hb=>by
  have:=List.all_eq_true.1 hlen.2.2.2 b hb
  simpa using this
 simp only [Option.some.injEq,Prod.mk.injEq] at ha
 obtain⟨rfl,rfl,rfl⟩:=ha
 obtain⟨h1,h2,h3,h4,h5⟩:=hs.freezeAll (coerced modes args)
 generalize hs1:freezeAll s (coerced modes args)=s1 at h1 h2 h3 h4 h5
 have hlk:∀ id∈ids,lkH id s1.heap=lkH id s.heap:=fun id hid=>by
  rw [← hs1];exact freezeAll_other _ s id fun x hx=>hnot x hx id hid
 have hg1:Good roots ids s1.heap:=⟨hg.nodup,hg.roots,fun n hn=>by rw [← h4];exact hg.keys n hn,fun n hn k hk=>hg.closed n hn k (by rw [← hlk n hn];exact hk)⟩
 have hHs:(ids.map fun n=>(lkH n s.heap).ren fun n=>numb n ids)=ids.map fun n=>(lkH n s1.heap).ren fun n=>numb n ids:=List.map_congr_left fun n hn=>by rw [hlk n hn]
 have hU:∀ b,U.v b→b < w.heap.size∧¬ Pas ρ ids s1.heap b:=fun b hb=>by
  have:=(h1.uo b (U.sub b hb)).1
  refine⟨Nat.lt_of_lt_of_le this h1.sz,?_⟩
  rintro⟨id,hid,n,r,c,L,g1,g2,rfl⟩
  exact h1.su id n r c L g1 g2 (U.sub _ hb)
 have hW:∀ b,WrO ρ s1.heap b→b < w.heap.size:=fun b hb=>by
  rcases hb with ⟨M,hx⟩ | ⟨id,n,r,L,g1,g2,rfl⟩
  ·exact h1.xk.l _ _ hx
  ·exact h1.loc_lt g1 g2
 obtain⟨k1,k2⟩:=h1.small hg1 (fun id hid=>by
  have:=List.all_eq_true.1 hgood3 id hid
  rw [hlk id hid];simpa using this) hU hW
 have hargs:=coerceAll_ok h hs (coerced modes args) modes args args' us.toList hco (fun x hx=>hx) hr
 rw [hs1] at hargs
 have hargs2:=hargs.map (f:=AV.ren fun n=>numb n ids) fun x hx v hv=>k2 x v hv fun id hid=>hg.roots id (by
  rw [← hroots];exact mem_addNew.2 (.inr (List.mem_flatMap.2 ⟨x,hx,hid⟩)))
 rw [hHs] at hrun
 refine(hC.does _ _ _ _ hrun _ w _ us rfl k1 hargs2).mono ?_
 rintro e w' ⟨v,ρ',rfl,q1,q2⟩
 have q3:=q1.ini
 have hPas:∀ b,Pas ρ ids s1.heap b↔Pas ρ ids s.heap b:=fun b=>by
  constructor
  ·rintro⟨id,hid,n,r,c,L,g1,g2,g3⟩;exact⟨id,hid,n,r,c,L,by rw [← hlk id hid];exact g1,g2,g3⟩
  ·rintro⟨id,hid,n,r,c,L,g1,g2,g3⟩;exact⟨id,hid,n,r,c,L,by rw [hlk id hid];exact g1,g2,g3⟩
 have fin:∀ base:St,Sim U V.G w0 W0 ρ base a w→(∀ id∈ids,lkH id base.heap=lkH id s1.heap)→(∀ id,hasKey id base.heap=hasKey id s.heap)→(base=s1∨(r.hasV=false ∧ ∀ b∈H',b.hasV=false)) →
   ∃ v' ρ'',Ending.returned v=.returned v'∧Sim U V.G w0 W0 ρ'' { base with heap:=putBack ids (s.next+16*i) (backOf ids (s.next+16*i)) 0 H' base.heap } a w' ∧
    Rep w' (Wr U ρ'' (putBack ids (s.next+16*i) (backOf ids (s.next+16*i)) 0 H' base.heap)) ρ'' (r.ren (backOf ids (s.next+16*i))) v':=by
  intro base b1 b2 b3 b4
  have hgb:Good roots ids base.heap:=⟨hg.nodup,hg.roots,fun n hn=>by rw [b3];exact hg.keys n hn,fun n hn k hk=>hg1.closed n hn k (by rw [← b2 n hn];exact hk)⟩
  have hPasb:∀ b,Pas ρ ids s1.heap b↔Pas ρ ids base.heap b:=fun b=>by
   constructor
   ·rintro⟨id,hid,n,r,c,L,g1,g2,g3⟩;exact⟨id,hid,n,r,c,L,by rw [b2 id hid];exact g1,g2,g3⟩
   ·rintro⟨id,hid,n,r,c,L,g1,g2,g3⟩;exact⟨id,hid,n,r,c,L,by rw [← b2 id hid];exact g1,g2,g3⟩
  have hHb:(ids.map fun n=>(lkH n s1.heap).ren fun n=>numb n ids)=ids.map fun n=>(lkH n base.heap).ren fun n=>numb n ids:=List.map_congr_left fun n hn=>by rw [b2 n hn]
  have hMgen:base=s1 → ∀ b,¬ Wr (others U ρ ids s1.heap w hU hW) ρ' (tagH 0 H') b→¬ Wr U ρ base.heap b∨WrO (rho0 ρ ids) (tagH 0 (ids.map fun n=>(lkH n s1.heap).ren fun n=>numb n ids)) b:=by
   rintro rfl b hb
   by_cases hw:WrO (rho0 ρ ids) (tagH 0 (ids.map fun n=>(lkH n base.heap).ren fun n=>numb n ids)) b
   ·exact .inr hw
   ·refine .inl ?_
    rintro(hU' | hO)
    ·exact hb (.inl (.inl hU'))
    ·refine hb (.inl (.inr ⟨hO,?_⟩))
     rintro⟨id,hid,n,r,c,L,g1,g2,rfl⟩
     rcases hO with ⟨M,hx⟩ | ⟨id2,n2,r2,L2,e1,e2,e3⟩
     ·exact h1.xk.s _ M id n r c L hx g1 g2 rfl
     have:=h1.sep id2 id n2 r2 n r c L2 L e1 g1 e2 g2 e3
     subst this
     obtain⟨j1,j2⟩:=numb_lt hid
     refine hw (.inr ⟨numb id2 ids,n2,r2.ren fun n=>numb n ids,L2,?_,?_,e3⟩)
     ·rw [small_lk,j2];simp only [e1];rfl
     ·rw [rho0_some j2];exact e2
  obtain⟨t1,_,t3⟩:=b1.behind (U':=others U ρ ids s1.heap w hU hW) (ρ':=ρ') (w':=w') (H':=H') (fresh:=s.next+16*i) hgb hHb
   (fun b hb=>by
    have:=(h1.uo b hb).1
    have:=h1.sz
    by_cases hp:Pas ρ ids s1.heap b
    ·exact .inr ((hPasb b).1 hp)
    ·exact .inl ⟨by omega,hp⟩)
   (fun b hlt hp=>⟨hlt,fun hp'=>hp ((hPasb b).1 hp')⟩) hlen.1 (fun t ht=>by rw [b3];exact hfree t ht) q1 q3 (by
    rcases b4 with b4 | b4
    ·exact .inl (hMgen b4)
    ·exact .inr b4.2) hO'
  exact⟨v,_,rfl,t1,t3 r v q2 (by
   rcases b4 with b4 | b4
   ·exact .inl (hMgen b4)
   ·exact .inr b4.1)⟩
 have keep:∀ base:St,(∃ v' ρ'',Ending.returned v=.returned v'∧Sim U V.G w0 W0 ρ'' { base with heap:=putBack ids (s.next+16*i) (backOf ids (s.next+16*i)) 0 H' base.heap } a w' ∧
    Rep w' (Wr U ρ'' (putBack ids (s.next+16*i) (backOf ids (s.next+16*i)) 0 H' base.heap)) ρ'' (r.ren (backOf ids (s.next+16*i))) v') →
   ∃ v' ρ'',Ending.returned v=.returned v'∧Sim U V.G w0 W0 ρ'' { base with heap:=putBackK ids (s.next+16*i) (backOf ids (s.next+16*i)) 0 H' base.heap } a w' ∧
    Rep w' (Wr U ρ'' (putBackK ids (s.next+16*i) (backOf ids (s.next+16*i)) 0 H' base.heap)) ρ'' (r.ren (backOf ids (s.next+16*i))) v':=by
  rintro base ⟨v',ρ'',g1,g2,g3⟩
  obtain⟨e1,e2⟩:=putBackK_eqv ids (s.next+16*i) (backOf ids (s.next+16*i)) H' 0 base.heap base.heap (fun _=>rfl) (fun _=>rfl)
  refine⟨v',ρ'',g1,g2.eqv ⟨fun _=>rfl,e1,e2,rfl,rfl,rfl⟩,?_⟩
  rw [← Wr_eqv e1];exact g3
 cases hleak:(r.hasV || H'.any Blk.hasV) with
 | true=>
  simp only []
  exact keep s1 (fin s1 h1 (fun _ _=>rfl) (fun id=>(h4 id).symm) (.inl rfl))
 | false=>
  simp only []
  rw [Bool.or_eq_false_iff] at hleak
  refine keep s (fin s hs (fun id hid=>(hlk id hid).symm) (fun _=>rfl) (.inr ⟨hleak.1,fun b hb=>?_⟩))
  have:=List.any_eq_false.1 hleak.2 b hb
  simpa using this
theorem aop_ok(h:TysOk P V.T)(hE:EOk P V)(hs:Sim U V.G w0 W0 ρ s a w){i:Nat}(ha:aop V i o s=some (true,av,s')):OpOk U P V w0 W0 o a w av s':=by
 by_cases hc:∀ c f,o.op=.call c→c.callee≠.value f
 ·exact aop_plain h hs hc ha
 ·obtain⟨c,x,ho,hx⟩:∃ c x,o.op=.call c∧c.callee=.value x:=by
   refine Classical.byContradiction fun hn=>hc fun c f h1 h2=>hn ⟨c,f,h1,h2⟩
  unfold aop at ha
  rw [ho] at ha
  dsimp only at ha
  rw [hx] at ha
  dsimp only at ha
  split at ha <;> try contradiction
  rename_i f cap hev
  split at ha <;> try contradiction
  rename_i hlt
  have hfx:=hs.ev x
  rw [hev] at hfx
  generalize hu:a.eval x=u at hfx
  cases hfx with
  | yl=>rw [Nat.blt_eq] at hlt;omega
  | fn _ _ cvs _ hl hrep=>
  have hall:=(Reps.of_ev hs c.args.toList).append (Reps.of_nth cap cvs.toList (by simpa using hl) fun j hj=>by
   have:=hrep j hj
   simpa [Array.getD_eq_getD_getElem?,List.getD_eq_getElem?_getD] using this)
  have hcall:=acall_ok h hE hs (us:=c.args.map a.eval++cvs) (by simpa using hall) ha
  intro next Q hn
  unfold Oper.wp
  have hC:∃ modes run,V.E f=some (modes,run):=by
   unfold acall at ha
   split at ha <;> try contradiction
   rename_i modes run hf
   exact⟨modes,run,hf⟩
  obtain⟨modes,run,hf⟩:=hC
  obtain⟨fn,g1,g2,g3⟩:=(hE f modes run hf).there
  have:(execOp a.eval o).run P w=.ok (.enter f (c.args.map a.eval++cvs)) w:=by
   simp only [execOp,ho,resolve,hx,hu,Deferred.ofValue,Sem.run_bind,Sem.run_pure,Result.andThen_ok,invoke,callFunc,run_program,g1,g2,g3]
   simp
  rw [this]
  show Calls P f _ w _
  refine hcall.mono ?_
  rintro e w' ⟨v,ρ',rfl,q1,q2⟩
  exact hn v w' ρ' q1 q2
end Go.Am
end
section
/- Regions in the text's order. -/
namespace Go.Am
open Go
variable {P : Program} {V : Env} {U : Oth} {w0 : World} {W0 : Nat → Prop} {ρ ρ' : Rho} {s s' : St} {a a' : Act} {w w' : World} {av : AV}
def agoOp(V:Env)(i:Nat)(o:Oper)(s:St):Option St:=match o.op with
 | .pick c x y=>match ev V s c with
  | .bool b=>some (s.put o.dst (ev V s (if b then x else y)))
  | _=>none
 | _=>match aop V i o s with
  | some (true,v,s')=>some (s'.put o.dst v)
  | _=>none
def astep(V:Env)(ops:Array Oper)(i:Nat)(o:Oper)(s:St):Option St:=match o.guard with
 | none=>agoOp V i o s
 | some (j,want)=>match (ops[j]?).bind (·.dst) with
  | none=>none
  | some d=>match lk d s.tmps with
   | .bool b=>if b=want then agoOp V i o (s.put (some d) (.bool b)) else some ((s.put (some d) (.bool b)).put o.dst (.tup .nil))
   | .tup .nil=>some (s.put o.dst (.tup .nil))
   | _=>none
variable {α : Type} {ops : Array Oper} {K : St → Option α} {x : α}
theorem cond_some{b:Bool}{X Y:Option α}(h:cond b X Y=some x):(b=true∧X=some x)∨(b=false∧Y=some x):=by
 cases b
 ·exact .inr ⟨rfl,h⟩
 ·exact .inl ⟨rfl,h⟩
theorem caseS_some{J:Nat}{Kq:Nat→Option α}:∀ (l:AVs) (q:Nat),caseS J Kq l q=some x→Kq J=some x
 | .nil,_,h=>by simp [caseS] at h
 | .cons _ _ t,q,h=>by
  rw [caseS] at h
  rcases cond_some h with ⟨hb,h⟩ | ⟨_,h⟩
  ·rw [Nat.eq_of_beq_eq_true hb];exact h
  ·exact caseS_some t (q+1) h
theorem spl_some{i:Nat}{o:Oper}{s s':St}{pre:Bool}{v:AV}{Kv:AV→Option α}(ha:aop V i o s=some (pre,v,s'))(h:spl V s o v Kv=some x):Kv v=some x:=by
 unfold spl at h
 split at h
 ·rename_i t y j hop
  split at h
  ·rename_i k jj id len sz hj hy
   split at h
   ·rename_i n l b hl
    have:=caseS_some (Kq:=fun q=>Kv (.ptr id (mz q sz) sz 0 0 0 sz)) l 0 h
    simp only [aop,hop,hj,hy] at ha
    split at ha <;> try contradiction
    simp only [Option.map_eq_some_iff,Prod.mk.injEq] at ha
    obtain⟨n0,_,_,rfl,_⟩:=ha
    unfold ptrAt
    rw [hl]
    exact this
   ·exact h
  ·exact h
 ·exact h
theorem aops_cons{i:Nat}{o:Oper}{l:List Oper}(h:aops V ops K i (o :: l) s=some x):∃ s',astep V ops i o s=some s'∧aops V ops K (i+1) l s'=some x:=by
 rw [aops] at h
 have go:∀ s:St,(match o.op with
   | .pick c x y=>match ev V s c with
    | .bool b=>cond b (aops V ops K (i+1) l (s.put o.dst (ev V s x))) (aops V ops K (i+1) l (s.put o.dst (ev V s y)))
    | _=>none
   | _=>match aop V i o s with
    | some (pre,v,s')=>cond pre (spl V s o v fun v=>aops V ops K (i+1) l (s'.put o.dst v)) none
    | none=>none)=some x → ∃ s',agoOp V i o s=some s'∧aops V ops K (i+1) l s'=some x:=by
  intro s h
  unfold agoOp
  split at h
  ·rename_i c y z hop
   split at h <;> try contradiction
   rename_i b hb
   rcases cond_some h with ⟨rfl,h⟩ | ⟨rfl,h⟩
   ·exact⟨_,rfl,h⟩
   ·exact⟨_,rfl,h⟩
  ·rename_i hop
   split at h <;> try contradiction
   rename_i pre v s' ha
   rcases cond_some h with ⟨rfl,h⟩ | ⟨rfl,h⟩
   ·refine⟨s'.put o.dst v,?_,spl_some (Kv:=fun v=>aops V ops K (i+1) l (s'.put o.dst v)) ha h⟩
    rw [ha]
   ·cases h
 dsimp only at h
 unfold astep
 split at h
 ·rename_i hg
  rw [hg]
  exact go s h
 ·rename_i j want hg
  rw [hg]
  dsimp only
  split at h <;> try contradiction
  rename_i d hd
  rw [hd]
  dsimp only
  split at h <;> try contradiction
  ·rename_i b hb
   rw [hb]
   rcases cond_some h with ⟨rfl,h⟩ | ⟨rfl,h⟩
   ·simp only [if_true];exact go _ h
   ·exact⟨_,rfl,h⟩
  ·rename_i b hb
   rw [hb]
   rcases cond_some h with ⟨rfl,h⟩ | ⟨rfl,h⟩
   ·exact⟨_,rfl,h⟩
   ·simp only [if_true];exact go _ h
  ·rename_i hb
   rw [hb]
   exact⟨_,rfl,h⟩
theorem Sim.keepTmp(h:Sim U V.G w0 W0 ρ s a w){d:Nat}{y:AV}(hy:lk d s.tmps=y):Sim U V.G w0 W0 ρ (s.put (some d) y) a w:=by
 unfold St.put
 dsimp only
 split
 ·refine { h with tm:=fun t=>?_ }
  simp only [lk_put]
  split
  ·rename_i e;subst e;rw [← hy];exact h.tm t
  ·exact h.tm t
 ·exact h
theorem astep_ok(h:TysOk P V.T)(hE:EOk P V)(hs:Sim U V.G w0 W0 ρ s a w){i:Nat}{o:Oper}(ho:ops[i]?=some o)(ha:astep V ops i o s=some s')(Kk:Act→World→Prop)(Q:Exit→Act→World→Prop)
  (hk:∀ a' w' ρ',Sim U V.G w0 W0 ρ' s' a' w'→Kk a' w'):wpOp P ops Q i Kk a w:=by
 have go:∀ s1:St,Sim U V.G w0 W0 ρ s1 a w→agoOp V i o s1=some s'→o.wp P a w Kk Q:=by
  intro s1 hs1 hg
  unfold agoOp at hg
  split at hg
  ·rename_i c y z hop
   split at hg <;> try contradiction
   rename_i b hb
   injection hg with hg;subst hg
   have hc:=hs1.ev c
   rw [hb] at hc
   have hb':a.eval c=.bool b:=by generalize a.eval c=u at hc;cases hc;rfl
   unfold Oper.wp
   have:(execOp a.eval o).run P w=.ok (.value (a.eval (if b then y else z))) w:=by
    simp only [execOp,hop,hb',asBool,Sem.run_bind,Sem.run_pure,Result.andThen_ok]
    cases b <;> rfl
   rw [this]
   exact hk _ _ _ (hs1.put (hs1.ev _) o.dst)
  ·split at hg <;> try contradiction
   rename_i v s2 ha2
   injection hg with hg;subst hg
   exact aop_ok h hE hs1 ha2 Kk Q fun v w' ρ' q1 q2=>hk _ _ _ (q1.put q2 o.dst)
 unfold wpOp
 rw [ho]
 dsimp only
 unfold astep at ha
 split at ha
 ·rename_i hg
  have:Region.wanted o (yielded ops a.tmps)=true:=by simp [Region.wanted,hg]
  rw [if_pos this]
  exact .inl (go s hs ha)
 ·rename_i j want hg
  split at ha <;> try contradiction
  rename_i d hd
  have hy:∀ v,a.tmps.getD d Go.undef=v→(∀ b,v=.bool b→yielded ops a.tmps j=some b)∧(v=.tuple #[]→yielded ops a.tmps j=none):=by
   intro v hv
   unfold yielded
   rw [hd]
   simp only [Option.bind_some]
   rw [Array.getD_eq_getD_getElem?] at hv
   cases he:a.tmps[d]? with
   | none=>rw [he] at hv;simp only [Option.getD_none] at hv;subst hv;exact⟨fun b hb=>by simp [Go.undef] at hb,fun _=>rfl⟩
   | some u=>rw [he] at hv;simp only [Option.getD_some] at hv;exact⟨fun b hb=>by rw [hv,hb],fun hb=>by rw [hv,hb]⟩
  split at ha <;> try contradiction
  ·rename_i b hb
   have hr:=hs.tm d
   rw [hb] at hr
   have hv:a.tmps.getD d Go.undef=.bool b:=by generalize a.tmps.getD d Go.undef=u at hr;cases hr;rfl
   have hyy:=(hy _ hv).1 b rfl
   have hs1:=hs.keepTmp hb
   by_cases hw:b=want
   ·rw [if_pos hw] at ha
    have:Region.wanted o (yielded ops a.tmps)=true:=by simp [Region.wanted,hg,hyy,hw]
    rw [if_pos this]
    exact .inl (go _ hs1 ha)
   ·rw [if_neg hw] at ha
    injection ha with ha;subst ha
    have:¬ Region.wanted o (yielded ops a.tmps)=true:=by simp [Region.wanted,hg,hyy,hw]
    rw [if_neg this]
    exact hk _ _ _ (hs1.put (.tup .nil #[] rfl fun j hj=>by simp [AVs.len] at hj) o.dst)
  ·rename_i hb
   have hr:=hs.tm d
   rw [hb] at hr
   have hv:a.tmps.getD d Go.undef=.tuple #[]:=by
    generalize a.tmps.getD d Go.undef=u at hr
    cases hr with | tup _ ws hl _=>
    have:ws = #[]:=by apply Array.eq_empty_of_size_eq_zero;rw [← hl];rfl
    rw [this]
   have hyy:=(hy _ hv).2 rfl
   injection ha with ha;subst ha
   have:¬ Region.wanted o (yielded ops a.tmps)=true:=by simp [Region.wanted,hg,hyy]
   rw [if_neg this]
   exact hk _ _ _ (hs.put (.tup .nil #[] rfl fun j hj=>by simp [AVs.len] at hj) o.dst)
theorem aops_ok(h:TysOk P V.T)(hE:EOk P V)(Q:Exit→Act→World→Prop)(hQ:∀ s' a' w' ρ',Sim U V.G w0 W0 ρ' s' a' w'→K s'=some x→Q .normal a' w'):
  ∀ (l:List Oper) (i:Nat) (s:St) (ρ:Rho) (a:Act) (w:World),ops.toList.drop i=l→Sim U V.G w0 W0 ρ s a w→aops V ops K i l s=some x→wpOps P ops Q ((List.range ops.size).drop i) a w
 | [],i,s,ρ,a,w,hl,hs,ha=>by
  have hge:ops.size≤i:=by have:=List.drop_eq_nil_iff.1 hl;simpa using this
  rw [List.drop_eq_nil_iff.2 (by simpa using hge)]
  simp only [aops] at ha
  exact hQ { s with next:=s.next+16*ops.size } a w ρ { tm:=hs.tm,nt:=hs.nt,df:=hs.df,bl:=hs.bl,sep:=hs.sep,dom:=hs.dom,fr:=hs.fr,wo:=hs.wo,sz:=hs.sz,gl:=hs.gl,uo:=hs.uo,ug:=hs.ug,su:=hs.su,ini:=hs.ini,im:=hs.im,sm:=hs.sm,xk:=hs.xk } ha
 | o :: l,i,s,ρ,a,w,hl,hs,ha=>by
  have hlt:i < ops.size:=by
   rcases Nat.lt_or_ge i ops.size with h | h
   ·exact h
   ·rw [List.drop_eq_nil_iff.2 (by simpa using h)] at hl;cases hl
  have ho:ops[i]?=some o:=by
   have:=List.getElem?_drop (xs:=ops.toList) (i:=i) (j:=0)
   rw [hl] at this;simpa using this.symm
  have hl':ops.toList.drop (i+1)=l:=by
   rw [← List.drop_drop,hl];rfl
  have hr:(List.range ops.size).drop i=i :: (List.range ops.size).drop (i+1):=by
   rw [List.drop_eq_getElem_cons (by simpa using hlt)];simp
  rw [hr,wpOps_cons]
  obtain⟨s',h1,h2⟩:=aops_cons ha
  exact astep_ok h hE hs ho h1 _ _ fun a' w' ρ' hs'=>aops_ok h hE Q hQ l (i+1) s' ρ' a' w' hl' hs' h2
end Go.Am
end
section
/- Normal form. -/
namespace Go.Am
open Go
variable {P : Program} {V : Env} {U : Oth} {w0 : World} {W0 : Nat → Prop} {ρ ρ' : Rho} {s s' : St} {a a' : Act} {w w' : World} {av : AV}
theorem Sim.slot(h:Sim U V.G w0 W0 ρ s a w){t:Nat}{y:AV}(hy:Rep w (Wr U ρ s.heap) ρ y (a.tmps.getD t Go.undef)):Sim U V.G w0 W0 ρ { s with tmps:=(t,y) :: s.tmps } a w:=by
 refine { h with tm:=fun u=>?_ }
 simp only [lk_put]
 split
 ·rename_i e;subst e;exact hy
 ·exact h.tm u
theorem Sim.next(h:Sim U V.G w0 W0 ρ s a w)(n:Nat):Sim U V.G w0 W0 ρ { s with next:=n } a w:=
 { tm:=h.tm,nt:=h.nt,df:=h.df,bl:=h.bl,sep:=h.sep,dom:=h.dom,fr:=h.fr,wo:=h.wo,sz:=h.sz,gl:=h.gl,uo:=h.uo,ug:=h.ug,su:=h.su,ini:=h.ini,im:=h.im,sm:=h.sm,xk:=h.xk }
theorem nth_cell:∀ (s:AVs) (k:Nat) (v v':AV),s.wfS→k < s.len→s.nth k=.one v→v'.scal=true → ∃ off,off < s.sizeS∧s.cellS off=v∧(s.setn k (.one v')).wfS∧(s.setn k (.one v')).sizeS=s.sizeS∧(s.setn k (.one v')).cellS off=v' ∧ ∀ j,j≠off→(s.setn k (.one v')).cellS j=s.cellS j
 | .nil,k,v,v',_,hk,_,_=>by simp [AVs.len] at hk
 | .cons n u t,0,v,v',hw,hk,hn,hv=>by
  obtain⟨hu,hs,ht⟩:=hw
  simp only [AVs.nth] at hn
  subst hn
  simp only [AV.size] at hs
  subst hs
  refine⟨0,by simp only [AVs.sizeS,AV.size];omega,by rw [cellS_lt (by omega)];rfl,⟨hv,rfl,ht⟩,rfl,by simp only [AVs.setn];rw [cellS_lt (by omega)];rfl,fun j hj=>?_⟩
  simp only [AVs.setn]
  rw [cellS_ge (by omega),cellS_ge (by omega)]
 | .cons n u t,k+1,v,v',hw,hk,hn,hv=>by
  obtain⟨hu,hs,ht⟩:=hw
  obtain⟨off,g1,g2,g3,g4,g5,g6⟩:=nth_cell t k v v' ht (by simp [AVs.len] at hk;omega) hn hv
  refine⟨n+off,by simp only [AVs.sizeS];omega,by rw [cellS_ge (by omega),Nat.add_sub_cancel_left];exact g2,⟨hu,hs,g3⟩,by simp only [AVs.setn,AVs.sizeS,g4],by simp only [AVs.setn];rw [cellS_ge (by omega),Nat.add_sub_cancel_left];exact g5,fun j hj=>?_⟩
  simp only [AVs.setn]
  by_cases hlt:j < n
  ·rw [cellS_lt hlt,cellS_lt hlt]
  ·rw [cellS_ge (by omega),cellS_ge (by omega)]
   exact g6 _ (by omega)
theorem touch_ok(hs:Sim U V.G w0 W0 ρ s a w){id n k j len sz nj fresh:Nat}{l:AVs}{rj:AV}(hl:lkH id s.heap=.cells n (.segs l) true)(hj:l.nth k=.one (.own j len sz))(hk:k < l.len)(hne:j≠id)(hf:hasKey fresh s.heap=false)
  (hlj:lkH j s.heap=.cells nj rj true) (hleaf:rj.leafB=true) :
  ∃ ρ',Sim U V.G w0 W0 ρ' { s with heap:=(id,.cells n (.segs (l.setn k (.one (.own fresh len sz)))) true) :: (fresh,.cells nj rj true) :: (j,.gone) :: s.heap,next:=fresh+1 } a w:=by
 have hb:=hs.bl id n _ true hl
 have hw:l.wfS:=by have:=hb.wf rfl;simpa only [AV.wf] using this
 have hsz:l.sizeS=n:=by have:=hb.size;simpa only [AV.size] using this
 obtain⟨off,g1,g2,g3,g4,g5,g6⟩:=nth_cell l k _ (.own fresh len sz) hw hk hj rfl
 have hfid:fresh≠id:=by rintro rfl;rw [lkH_none hf] at hl;cases hl
 have hfj:fresh≠j:=by rintro rfl;rw [lkH_none hf] at hlj;cases hlj
 have hid2:hasKey fresh (s.setH j .gone).heap=false:=by
  simp only [St.setH];rw [hasKey_put,hf];simp [hfj]
 obtain⟨L,hL,hLn,hcells,hmine,hlt⟩:∃ L,ρ id=some (some L)∧L.n=n∧(∀ j,j < n → ∃ v,w.cell? ⟨L.b,L.base+j,none⟩=some v∧Rep w (Wr U ρ s.heap) ρ ((AV.segs l).cell j) v)∧Mine w L∧L.b < w.heap.size:=by
  rcases hb.lies with ⟨h1,h2⟩ | ⟨L,h1,h2,h3,h4,h5⟩
  ·omega
  ·exact⟨L,h1,h2,h3,h4 rfl rfl,h5⟩
 obtain⟨ρ1,q1,q2,q3,q4⟩:∃ ρ1,Sim U V.G w0 W0 ρ1 ((s.setH j .gone).setH fresh (.cells nj rj true)) a w∧(∀ x v,Rep w (Wr U ρ s.heap) ρ x v→Rep w (Wr U ρ1 ((s.setH j .gone).setH fresh (.cells nj rj true)).heap) ρ1 x v) ∧
   (∀ v,Rep w (Wr U ρ s.heap) ρ (.own j len sz) v→Rep w (Wr U ρ1 ((s.setH j .gone).setH fresh (.cells nj rj true)).heap) ρ1 (.own fresh len sz) v)∧ρ1 id=some (some L):=by
  have hbj:=hs.bl j nj rj true hlj
  rcases hbj.lies with ⟨h1,h2⟩ | ⟨Lj,h1,h2,h3,h4,h5⟩
  ·obtain⟨f1,f2⟩:=hs.weaken (id:=j) (b':=.gone) (.inl rfl)
   obtain⟨p1,p2⟩:=f1.newEmpty (id:=fresh) (r:=rj) hid2 (wf_leaf hleaf) (by rw [hbj.size,h2])
   subst h2
   refine⟨_,p1,fun x v hx=>p2 _ _ (f2 _ _ hx),fun v hv=>?_,by rw [Rho.set_other _ _ (Ne.symm hfid)];exact hL⟩
   cases hv with
   | own0 _ _ b _=>exact .own0 fresh _ b (Rho.set_same _ _ _)
   | own _ _ _ _ _ L' hL'=>rw [h1] at hL';cases hL'
  ·obtain⟨hw',hs',hn',vals,hv'⟩:=hs.cells hlj h1
   have hG:=hs.grow (htag:=fun t ht=>by rw [leaf_tag hleaf] at ht;cases ht) (w':=w) (id':=fresh) (r':=rj) (n':=nj) hlj h1 (WSame.refl _) hid2 (wf_leaf hleaf) hbj.size rfl (fun _ _=>rfl) (by
    have:=h4 rfl (leaf_isM hleaf)
    obtain⟨c,t',fr,m1,m2,m3,m4⟩:=this
    exact⟨c,t',fr,m1,m2,by simp only;omega,m4⟩) fun i hi=>⟨_,(hv' i hi).1,(hv' i hi).2⟩
   refine⟨_,hG.1,hG.2,fun v hv=>?_,by rw [Rho.set_other _ _ (Ne.symm hfid)];exact hL⟩
   cases hv with
   | own0 _ _ b hL'=>rw [h1] at hL';cases hL'
   | own _ _ _ ll cap L' hL' hn1 hkl hcap hS h0 hm=>
    rw [h1] at hL';cases hL'
    exact .own fresh len sz ll cap { Lj with n:=nj } (Rho.set_same _ _ _) (by simp only;omega) hkl hcap hS h0 hm
 have hl1:lkH id ((s.setH j .gone).setH fresh (.cells nj rj true)).heap=.cells n (.segs l) true:=by
  simp only [St.setH];rw [lkH_put,if_neg (Ne.symm hfid),lkH_put,if_neg (Ne.symm hne)];exact hl
 obtain⟨r1,_⟩:=q1.rewrite (r':=.segs (l.setn k (.one (.own fresh len sz)))) (w':=w) (htag:=fun t ht=>by rw [tag_setn hj hk] at ht;exact ht) hl1 q4 (WSame.refl _) (by simpa only [AV.wf] using g3) (by simp only [AV.size];omega) rfl (fun _ _=>rfl) hmine (fun i hi=>by
  obtain⟨v,e1,e2⟩:=hcells i hi
  refine⟨v,e1,?_⟩
  simp only [AV.cell] at e2 ⊢
  by_cases hio:i=off
  ·subst hio
   rw [g2] at e2
   rw [g5]
   exact q3 v e2
  ·rw [g6 i hio];exact q2 _ _ e2)
 exact⟨ρ1,r1.next (fresh+1)⟩
theorem fvAt_ok(h:TysOk P V.T)(hs:Sim U V.G w0 W0 ρ s a w)(e id k:Nat):Sim U V.G w0 W0 ρ (fvAt V e id s k) a w:=by
 unfold fvAt
 split <;> first | exact hs | skip
 rename_i n0 l hl
 split <;> first | exact hs | skip
 rename_i v hj
 split <;> first | exact hs | skip
 rename_i r len sz hv
 split <;> first | exact hs | skip
 rename_i n r0 hl2 hk
 rw [Nat.blt_eq] at hk
 have hl3:=freeze_sub s v id n r0 hl2
 rw [hl] at hl3
 injection hl3 with e1 e2 e3
 subst e1;subst e2
 obtain⟨f1,f2⟩:=hs.freeze v
 have hb:=hs.bl id n0 _ true hl
 have hw:l.wfS:=by have:=hb.wf rfl;simpa only [AV.wf] using this
 have hsz:l.sizeS=n0:=by have:=hb.size;simpa only [AV.size] using this
 obtain⟨off,g1,g2,g3,g4,g5,g6⟩:=nth_cell l k _ (mkvs r len sz) hw hk hj rfl
 obtain⟨L,hL,hLn,hcells,hlt⟩:∃ L,ρ id=some (some L)∧L.n=n0∧(∀ j,j < n0 → ∃ v,w.cell? ⟨L.b,L.base+j,none⟩=some v∧Rep w (Wr U ρ s.heap) ρ ((AV.segs l).cell j) v)∧L.b < w.heap.size:=by
  rcases hb.lies with ⟨h1,h2⟩ | ⟨L,h1,h2,h3,h4,h5⟩
  ·omega
  ·exact⟨L,h1,h2,h3,h5⟩
 have hmine:Mine w L:=by
  have hb2:=f1.bl id n0 _ true hl2
  rcases hb2.lies with ⟨h1,h2⟩ | ⟨L2,h1,h2,h3,h4,h5⟩
  ·rw [h1] at hL;cases hL
  ·rw [h1] at hL;cases hL;exact h4 rfl rfl
 refine(f1.rewrite (r':=.segs (l.setn k (.one (mkvs r len sz)))) (w':=w) (htag:=fun t ht=>by rw [tag_setn hj hk] at ht;exact ht) hl2 hL (WSame.refl _) (by simpa only [AV.wf] using g3) (by simp only [AV.size];omega) rfl (fun _ _=>rfl) hmine (fun i hi=>?_)).1
 obtain⟨u,e1,e2⟩:=hcells i hi
 refine⟨u,e1,?_⟩
 simp only [AV.cell] at e2 ⊢
 by_cases hio:i=off
 ·subst hio
  rw [g2] at e2
  rw [g5]
  exact coerce_ok h hs e2 hv
 ·rw [g6 i hio];exact f2 _ _ e2
theorem fvAll_ok(h:TysOk P V.T)(e id:Nat):∀ (n k:Nat) (s:St),Sim U V.G w0 W0 ρ s a w→Sim U V.G w0 W0 ρ (fvAll V e id n k s) a w
 | 0,_,_,hs=>hs
 | n+1,k,_,hs=>fvAll_ok h e id n (k+1) _ (fvAt_ok h hs e id k)
theorem rowsOf_spec{k:IntKind}:∀ {l:AVs} {xss:List (List Int)},rowsOf k l=some xss→xss.length=l.sizeS ∧ ∀ j,j < l.sizeS→l.cellS j=.vs (.rI k (xss.getD j [])) 0 1
 | .nil,xss,h=>by
  simp only [rowsOf,Option.some.injEq] at h;subst h
  exact⟨rfl,fun j hj=>by simp [AVs.sizeS] at hj⟩
 | .cons m v t,xss,h=>by
  unfold rowsOf at h
  split at h <;> try contradiction
  ·rename_i k' xs t' heq
   cases heq
   split at h <;> try contradiction
   rename_i l hk hl
   cases h
   have hk':=of_decide_eq_true hk
   subst hk'
   obtain⟨h1,h2⟩:=rowsOf_spec hl
   refine⟨by simp only [List.length_cons,AVs.sizeS,AV.size,h1];omega,fun j hj=>?_⟩
   cases j with
   | zero=>rw [cellS_lt (by omega)];rfl
   | succ j=>
    rw [cellS_ge (by omega)]
    simp only [AVs.sizeS,AV.size] at hj
    rw [Nat.add_sub_cancel,h2 j (by omega)];rfl
theorem collect_ok(hs:Sim U V.G w0 W0 ρ s a w)(id:Nat)(k:IntKind):Sim U V.G w0 W0 ρ (collect s id k) a w:=by
 unfold collect
 split <;> first | exact hs | skip
 rename_i n l hl
 split <;> first | exact hs | skip
 rename_i xss hn hx
 rw [Nat.blt_eq] at hn
 obtain⟨h1,h2⟩:=rowsOf_spec hx
 have hb:=hs.bl id n _ true hl
 have hsz:l.sizeS=n:=by have:=hb.size;simpa only [AV.size] using this
 obtain⟨L,hL,hLn,hcells,hmine,hlt⟩:∃ L,ρ id=some (some L)∧L.n=n∧(∀ j,j < n → ∃ v,w.cell? ⟨L.b,L.base+j,none⟩=some v∧Rep w (Wr U ρ s.heap) ρ ((AV.segs l).cell j) v)∧Mine w L∧L.b < w.heap.size:=by
  rcases hb.lies with ⟨h1,h2⟩ | ⟨L,h1,h2,h3,h4,h5⟩
  ·omega
  ·exact⟨L,h1,h2,h3,h4 rfl rfl,h5⟩
 refine(hs.rewrite (r':=.rL k xss) (w':=w) (htag:=fun t ht=>by rw [leaf_tag rfl] at ht;cases ht) hl hL (WSame.refl _) trivial (by simp only [AV.size];omega) rfl (fun _ _=>rfl) hmine (fun i hi=>?_)).1
 obtain⟨u,e1,e2⟩:=hcells i hi
 refine⟨u,e1,?_⟩
 simp only [AV.cell] at e2 ⊢
 rw [h2 i (by omega)] at e2
 exact e2
theorem mode1_ok(h:TysOk P V.T)(hs:Sim U V.G w0 W0 ρ s a w)(t:Nat)(m:Md)(fresh:Nat):∃ ρ',Sim U V.G w0 W0 ρ' (mode1 V s t m fresh) a w:=by
 unfold mode1
 split
 ·exact⟨ρ,hs⟩
 ·rename_i e
  split
  ·rename_i r hns hz hk
   obtain⟨_,g1,g2,_⟩:=h.zrow hz
   obtain⟨q1,q2⟩:=hs.newEmpty (id:=fresh) (r:=r) hk (wf_leaf g1) (by rw [g2];simp)
   have hr:=hs.tm t
   rw [hns] at hr
   refine⟨_,(q1.slot (t:=t) (y:=.own fresh 0 (V.T.at e).sz) ?_).next (fresh+1)⟩
   generalize a.tmps.getD t Go.undef=u at hr ⊢
   cases hr with | ns=>
   exact .own0 fresh _ none (Rho.set_same _ _ _)
  ·rename_i id lim len r0 hsl hz hk
   split
   ·rename_i n r hl
    split
    ·rename_i r' hp
     have hr:=hs.tm t
     rw [hsl] at hr
     have hne:id≠fresh:=by
      rintro rfl
      rw [lkH_none hk] at hl;cases hl
     have hid:hasKey fresh (s.setH id .gone).heap=false:=by
      simp only [St.setH];rw [hasKey_put,hk]
      simp [Ne.symm hne]
     generalize hu:a.tmps.getD t Go.undef=u at hr
     cases hr with
     | sl0 _ _ _ _ _ a0 _=>
      obtain⟨f1,f2⟩:=hs.weaken (id:=id) (b':=.gone) (.inl rfl)
      obtain⟨q1,q2⟩:=f1.newEmpty (id:=fresh) (r:=r') hid (wf_leaf (Parts.leaf hp)) (part_size0 hp)
      refine⟨_,(q1.slot (t:=t) (y:=.own fresh 0 1) ?_).next (fresh+1)⟩
      rw [hu]
      exact .own0 fresh _ a0 (Rho.set_same _ _ _)
     | sl _ _ _ _ _ _ cap L hL h0 hx hb hcap hm hlim hS=>
      have hleaf:=Parts.leaf hp
      have hb':=hs.bl id n r true hl
      obtain⟨hw,hsz,hLn,vals,hv⟩:=hs.cells hl hL
      have hps:=part_spec hp (by omega)
      have hM:Mine w L:=by
       rcases hb'.lies with ⟨h1,_⟩ | ⟨L',h1,_,_,h4,_⟩
       ·rw [h1] at hL;cases hL
       ·rw [h1] at hL;cases hL;exact h4 rfl (by cases r <;> first | rfl | (simp [AV.part] at hp))
      obtain⟨c,t',fr,m1,m2,m3,m4⟩:=hM
      have hG:=hs.grow (htag:=fun t ht=>by rw [leaf_tag hleaf] at ht;cases ht) (w':=w) (id':=fresh) (r':=r') (n':=len) hl hL (WSame.refl _) hid (wf_leaf hleaf) hps.size rfl (fun _ _=>rfl) ⟨c,t',fr,m1,m2,by simp only;omega,m4⟩ fun j hj=>by
       have:=hv j (by omega)
       refine⟨_,this.1,?_⟩
       rw [hps.cells j hj,Nat.zero_add]
       exact this.2
      refine⟨_,(hG.1.slot (t:=t) (y:=.own fresh 0 1) ?_).next (fresh+1)⟩
      rw [hu]
      have e:(⟨L.b,L.base+(0+0*1),none⟩:Addr)=⟨L.b,L.base,none⟩:=by simp
      rw [e]
      exact .own fresh 0 1 len cap { L with n:=len } (Rho.set_same _ _ _) (Nat.mul_one _) rfl hcap (by simp only;omega) (by omega) hm
    ·exact⟨ρ,hs⟩
   ·exact⟨ρ,hs⟩
  ·exact⟨ρ,hs⟩
 ·rename_i e
  split
  ·rename_i r len sz hv
   have hr:=hs.tm t
   exact⟨ρ,(hs.freeze (lk t s.tmps)).1.slot (coerce_ok h hs hr hv)⟩
  ·exact⟨ρ,hs⟩
 ·-- an owned slice in a field gets a new name
  rename_i k
  split <;> first | exact⟨ρ,hs⟩ | skip
  split <;> first | exact⟨ρ,hs⟩ | skip
  rename_i id lim rm hptr n l hl
  split <;> first | exact⟨ρ,hs⟩ | skip
  rename_i j len sz hj
  split <;> first | exact⟨ρ,hs⟩ | skip
  rename_i nj rj hc hk hlj
  split <;> first | exact⟨ρ,hs⟩ | skip
  rename_i hleaf
  rw [Bool.and_eq_true,Nat.blt_eq,Bool.not_eq_true'] at hc
  exact touch_ok hs hl hj hc.1 (by intro e;rw [e] at hc;simp at hc) hk hlj hleaf
 ·-- a slice in a field, as a view
  rename_i k e
  split <;> first | exact⟨ρ,hs⟩ | skip
  exact⟨ρ,fvAt_ok h hs _ _ _⟩
 ·-- slices in the elements of an owned one, as views
  rename_i k e
  split <;> first | exact⟨ρ,hs⟩ | skip
  split <;> first | exact⟨ρ,hs⟩ | skip
  exact⟨ρ,collect_ok (fvAll_ok h _ _ _ _ _ hs) _ _⟩
 ·-- a map gives up its slices
  split <;> first | exact⟨ρ,hs⟩ | skip
  ·split <;> first | exact⟨ρ,hs⟩ | skip
   rename_i hl
   exact hs.fixM hl
  ·-- a variable of one's own that is only looked at from here on
   rename_i id hp
   split <;> first | exact⟨ρ,hs⟩ | skip
   rename_i k x hl
   have hr:=hs.tm t
   rw [hp] at hr
   refine⟨ρ,(hs.freezeId id).1.slot ?_⟩
   generalize a.tmps.getD t Go.undef=u at hr ⊢
   cases hr with
   | ptr _ _ _ _ _ _ _ L hL hi hx hb h0=>
    obtain⟨hw,hsz,hLn,vals,hv⟩:=hs.cells hl hL
    refine .gp (.rI k [x]) 1 0 0 0 1 L.b L.base vals rfl rfl (fun _=>rfl) (by decide) (by decide) ?_ (fun j hj=>(hv j hj).1) (fun j hj=>?_)
    ·simp only [Am.freezeId,hl]
     exact hs.not_wr hl hL
    ·obtain rfl:j=0:=by omega
     exact(hs.freezeId id).2 _ _ (hv 0 hj).2
theorem modeAll_ok(h:TysOk P V.T):∀ (l:List (Nat×Md)) (fresh:Nat) (s:St) (ρ:Rho),Sim U V.G w0 W0 ρ s a w → ∃ ρ',Sim U V.G w0 W0 ρ' (modeAll V l fresh s) a w
 | [],_,s,ρ,hs=>⟨ρ,hs⟩
 | (t,m) :: l,fresh,s,ρ,hs=>by
  obtain⟨ρ1,h1⟩:=mode1_ok h hs t m fresh
  exact modeAll_ok h l (fresh+1) _ ρ1 h1
theorem lk_map{s:St}(f:AV→AV):∀ (keep:List (Nat×Md)) (t:Nat),(lk t (keep.map fun p=>(p.1,f (lk p.1 s.tmps)))=f (lk t s.tmps) ∧ ∃ p∈keep,p.1=t)∨lk t (keep.map fun p=>(p.1,f (lk p.1 s.tmps)))=.undef
 | [],t=>.inr rfl
 | p :: keep,t=>by
  rw [List.map_cons,lk_put]
  by_cases e:t=p.1
  ·rw [if_pos e,e];exact .inl ⟨rfl,p,by simp,rfl⟩
  ·rw [if_neg e]
   rcases lk_map f keep t with ⟨h,q,hq,he⟩ | h
   ·exact .inl ⟨h,q,by simp [hq],he⟩
   ·exact .inr h
theorem addNew_pre:∀ (l acc:List Nat),∃ t,addNew acc l=acc++t
 | [],acc=>⟨[],by simp [addNew]⟩
 | n :: l,acc=>by
  simp only [addNew]
  split
  ·exact addNew_pre l acc
  ·obtain⟨t,ht⟩:=addNew_pre l (acc++[n])
   exact⟨n :: t,by rw [ht];simp⟩
theorem reach_pre(H:List (Nat×Blk)):∀ (d:Nat) (acc todo:List Nat),∃ t,reach H d acc todo=acc++t
 | 0,acc,todo=>⟨[],by simp [reach]⟩
 | d+1,acc,[]=>⟨[],by simp [reach]⟩
 | d+1,acc,id :: todo=>by
  simp only [reach]
  obtain⟨t,ht⟩:=reach_pre H d (acc++addNew [] ((lkH id H).ids.filter fun n=>!(mem n acc))) (todo++addNew [] ((lkH id H).ids.filter fun n=>!(mem n acc)))
  exact⟨_,by rw [ht,List.append_assoc]⟩
theorem reach_fix{H:List (Nat×Blk)}{m d:Nat}{l todo:List Nat}:∀ j,j < m→(reach H d (addNew (List.range m) l) todo)[j]?=some j:=by
 intro j hj
 obtain⟨t,ht⟩:=addNew_pre l (List.range m)
 obtain⟨t2,ht2⟩:=reach_pre H d (addNew (List.range m) l) todo
 rw [ht2,ht,List.append_assoc,List.getElem?_append_left (by simpa using hj)]
 simp [hj]
theorem norm_ok(h:TysOk P V.T)(hs:Sim U V.G w0 W0 ρ s a w)(keep:List (Nat×Md)):∃ ρ',Sim U V.G w0 W0 ρ' (norm V keep s) a w:=by
 unfold norm
 dsimp only
 obtain⟨ρ1,h1⟩:=modeAll_ok h keep s.next s ρ hs
 generalize modeAll V keep s.next s=s1 at h1 ⊢
 generalize hroots:addNew (List.range s1.m) ((keep.map fun p=>(p.1,lk p.1 s1.tmps)).flatMap fun p=>p.2.ids)=roots
 generalize hids:reach s1.heap 64 roots roots=ids
 split
 ·rename_i hgood
  have hg:=goodIds_ok hgood
  have hfix:∀ j,j < s1.m→ids[j]?=some j:=by
   rw [← hids,← hroots]
   exact reach_fix
  refine⟨rhoN ρ1 ids,?_⟩
  have key:∀ x v,Rep w (Wr U ρ1 s1.heap) ρ1 x v→(∀ id∈x.ids,id∈ids)→Rep w (Wr U (rhoN ρ1 ids) (tagH 0 (ids.map fun n=>(lkH n s1.heap).ren fun n=>numb n ids))) (rhoN ρ1 ids) (x.ren fun n=>numb n ids) v:=by
   intro x v hx hid
   have h1:=hx.ren (ρ':=rhoN ρ1 ids) (fun n=>numb n ids) (fun id hi y hy=>by rw [rhoN_numb (hid id hi)];exact hy)
   exact h1.mono (fun _ _ _ _=>rfl) (fun b hlt hb hb'=>hb (by
    rcases hb' with hb' | hb'
    ·exact .inl hb'
    ·exact .inr (small_wrN hb'))) (fun _ _ h=>h)
  exact {
   tm:=fun t=>by
    have e:(List.map (fun p=>(p.1,AV.ren (fun n=>numb n ids) p.2)) (keep.map fun p=>(p.1,lk p.1 s1.tmps)))=keep.map fun p=>(p.1,AV.ren (fun n=>numb n ids) (lk p.1 s1.tmps)):=by rw [List.map_map];rfl
    dsimp only
    rw [e]
    rcases lk_map (s:=s1) (AV.ren fun n=>numb n ids) keep t with ⟨e2,p,hp,rfl⟩ | e2
    ·rw [e2]
     refine key _ _ (h1.tm p.1) fun id hid=>hg.roots id ?_
     rw [← hroots]
     refine mem_addNew.2 (.inr (List.mem_flatMap.2 ⟨(p.1,lk p.1 s1.tmps),List.mem_map.2 ⟨p,hp,rfl⟩,hid⟩))
    ·rw [e2];exact .undef _
   nt:=h1.nt
   df:=h1.df
   bl:=fun j n r b hl=>by
    obtain⟨id,r0,g1,g2,g3,rfl⟩:=small_cells hl
    have hb:=h1.bl id n r0 b g3
    obtain⟨q1,q2,q3⟩:=row_renM (fun n=>numb n ids) r0 hb.wf
    refine⟨q1,q2.trans hb.size,?_,fun k kn v es e=>?_,fun t ht=>?_⟩ <;> rw [rhoN_some g1]
    rotate_left
    ·obtain⟨L,l1,l2⟩:=hb.map k kn v es (ren_rM e)
     obtain⟨ms,clock,m1,m2⟩:=l2.ex
     exact⟨L,l1,⟨⟨ms,clock,m1,m2.mono fun xs u hx=>by
      have:=key _ _ hx (fun i hi=>by rw [mval_ids] at hi;simp at hi)
      rwa [mval_ren] at this⟩,l2.keys,l2.nd,l2.bo,l2.hid.mono rfl fun c hc=>⟨rfl,rfl⟩⟩⟩
    ·exact hb.typ t (by rw [tag_ren] at ht;exact ht)
    rcases hb.lies with hb1 | ⟨L,l1,l2,l3,l4,l5⟩
    ·exact .inl hb1
    ·refine .inr ⟨L,l1,l2,fun k hk=>?_,(fun e h=>l4 e (by rwa [isM_ren] at h)),l5⟩
     obtain⟨v,e1,e2⟩:=l3 k hk
     refine⟨v,e1,?_⟩
     have q:=q3 k (by rw [hb.size];exact hk)
     rw [q.1]
     exact key _ _ e2 fun i hi=>hg.closed id g2 i (by rw [g3];exact q.2 i hi)
   sep:=fun j j' n r n' r' b' L L' h1' h2 h3 h4 h5=>by
    obtain⟨id,r0,g1,g2,g3,rfl⟩:=small_cells h1'
    obtain⟨id',r0',g1',g2',g3',rfl⟩:=small_cells h2
    rw [rhoN_some g1] at h3
    rw [rhoN_some g1'] at h4
    have e:=h1.sep id id' n r0 n' r0' b' L L' g3 g3' h3 h4 h5
    subst e
    exact(List.getElem?_inj (List.getElem?_eq_some_iff.1 g1).1 hg.nodup).1 (g1.trans g1'.symm)
   dom:=fun j hj=>by
    simp only [hasKey_tag,List.length_map]
    have:j < ids.length:=by
     rcases Nat.lt_or_ge j ids.length with h | h
     ·exact h
     ·exact absurd (by simp [rhoN,rho0,List.getElem?_eq_none h]) hj
    simp [this]
   fr:=h1.fr
   wo:=fun b hb=>h1.wo b (small_wrN hb)
   sz:=h1.sz
   gl:=h1.gl
   uo:=h1.uo
   ug:=h1.ug
   su:=fun j n r b L h1' h2=>by
    obtain⟨id,r0,g1,g2,g3,rfl⟩:=small_cells h1'
    rw [rhoN_some g1] at h2
    exact h1.su id n r0 b L g3 h2
   ini:=fun id x hx=>by
    have hlt:=h1.im id (by rw [hx];simp)
    rw [rhoN_some (hfix id hlt)]
    exact h1.ini id x hx
   im:=h1.im,sm:=h1.sm
   xk:=⟨h1.xk.l,fun b M j n r c L hb h1' h2=>by
    obtain⟨id,r0,g1,g2,g3,rfl⟩:=small_cells h1'
    rw [rhoN_some g1] at h2
    exact h1.xk.s b M id n r0 c L hb g3 h2,h1.xk.u⟩ }
 ·exact⟨ρ,hs⟩
theorem cutTo_ok(h:TysOk P V.T)(hs:Sim U V.G w0 W0 ρ s a w)(spec:Option (List (Nat×Md))):∃ ρ',Sim U V.G w0 W0 ρ' (cutTo V spec s) a w:=by
 cases spec with
 | none=>exact⟨ρ,hs⟩
 | some keep=>exact norm_ok h hs keep
end Go.Am
end