/- Part of a proof. -/
import Derived.Test.YtgdibbphgdkllaaAmOps11
import Derived.Maps.Keyed
set_option linter.unusedVariables false
set_option linter.unusedSimpArgs false
namespace Go.Am
open Go
variable {P : Program} {V : Env} {U : Oth} {w0 : World} {W0 : Nat → Prop} {o : Oper} {ρ ρ' : Rho} {s s' : St} {a : Act} {w w' : World} {av : AV}
def KeyTy(T:Tys)(kt:Nat)(k:IntKind)(n:Nat):Prop:=(n=0∧(T.at kt).d=.int k) ∨ ∃ e,0 < n∧(T.at kt).d=.arr n e∧(T.at e).d=.int k
def ElTy(T:Tys)(et:Nat):MV→Prop
 | .one k=>(T.at et).d=.int k
 | .bool=>(T.at et).d=.bool
 | .arr k n=>∃ e,(T.at et).d=.arr n e∧(T.at e).d=.int k
 | .sl k=>∃ e,(T.at et).d=.slice e∧(T.at e).d=.int k
 | _=>False
theorem mapTy_ok{T:Tys}{t:Nat}{k:IntKind}{n:Nat}{v:MV}(h:mapTy T t=some (k,n,v)):∃ kt et,(T.at t).d=.map kt et∧KeyTy T kt k n∧ElTy T et v:=by
 unfold mapTy at h
 split at h <;> try contradiction
 rename_i kt et hd
 split at h <;> try contradiction
 rename_i k' n' v' h1 h2
 simp only [Option.some.injEq,Prod.mk.injEq] at h
 obtain⟨rfl,rfl,rfl⟩:=h
 refine⟨kt,et,hd,?_,?_⟩
 ·split at h1 <;> try contradiction
  ·rename_i k1 hk
   simp only [Option.some.injEq,Prod.mk.injEq] at h1
   obtain⟨rfl,rfl⟩:=h1
   exact .inl ⟨rfl,hk⟩
  ·rename_i m e hk
   split at h1 <;> try contradiction
   rename_i k1 he
   simp only [Option.some.injEq,Prod.mk.injEq] at h1
   obtain⟨rfl,rfl⟩:=h1
   exact .inr ⟨e,Nat.succ_pos _,hk,he⟩
 ·split at h2 <;> try contradiction
  ·rename_i k1 hk;injection h2 with h2;subst h2;exact hk
  ·rename_i hk;injection h2 with h2;subst h2;exact hk
  ·rename_i m e hk
   split at h2 <;> try contradiction
   rename_i k1 he
   injection h2 with h2;subst h2;exact⟨e,hk,he⟩
  ·rename_i e hk
   split at h2 <;> try contradiction
   rename_i k1 he
   injection h2 with h2;subst h2;exact⟨e,hk,he⟩
theorem mv_beq:∀ {v v':MV},v.beq v'=true→v=v'
 | .one k,.one k',h=>by simp only [MV.beq,decide_eq_true_eq] at h;rw [h]
 | .arr k n,.arr k' n',h=>by simp only [MV.beq,Bool.and_eq_true,decide_eq_true_eq,Nat.beq_eq] at h;rw [h.1,h.2]
 | .bool,.bool,_=>rfl
 | .sl k,.sl k',h=>by simp only [MV.beq,decide_eq_true_eq] at h;rw [h]
 | .one _,.arr _ _,h=>by simp [MV.beq] at h
 | .one _,.bool,h=>by simp [MV.beq] at h
 | .one _,.sl _,h=>by simp [MV.beq] at h
 | .arr _ _,.one _,h=>by simp [MV.beq] at h
 | .arr _ _,.bool,h=>by simp [MV.beq] at h
 | .arr _ _,.sl _,h=>by simp [MV.beq] at h
 | .bool,.one _,h=>by simp [MV.beq] at h
 | .bool,.arr _ _,h=>by simp [MV.beq] at h
 | .bool,.sl _,h=>by simp [MV.beq] at h
 | .sl _,.one _,h=>by simp [MV.beq] at h
 | .sl _,.arr _ _,h=>by simp [MV.beq] at h
 | .sl _,.bool,h=>by simp [MV.beq] at h
 | .osl _,v,h=>by cases v <;> simp [MV.beq] at h
 | .oslx _ _,v,h=>by cases v <;> simp [MV.beq] at h
 | .one _,.osl _,h=>by simp [MV.beq] at h
 | .arr _ _,.osl _,h=>by simp [MV.beq] at h
 | .bool,.osl _,h=>by simp [MV.beq] at h
 | .sl _,.osl _,h=>by simp [MV.beq] at h
 | .one _,.oslx _ _,h=>by simp [MV.beq] at h
 | .arr _ _,.oslx _ _,h=>by simp [MV.beq] at h
 | .bool,.oslx _ _,h=>by simp [MV.beq] at h
 | .sl _,.oslx _ _,h=>by simp [MV.beq] at h
theorem elTy_no{T:Tys}{et:Nat}{v:MV}(h:ElTy T et v):v.okind=none:=by cases v <;> first | rfl | exact h.elim
theorem isMapTy_ok{T:Tys}{t:Nat}{k:IntKind}{n:Nat}{v:MV}(h:isMapTy T t k n v=true):∃ kt et,(T.at t).d=.map kt et∧KeyTy T kt k n∧ElTy T et v:=by
 unfold isMapTy at h
 split at h <;> try contradiction
 rename_i k' n' v' h1
 simp only [Bool.and_eq_true,decide_eq_true_eq,Nat.beq_eq] at h
 obtain⟨⟨rfl,rfl⟩,h3⟩:=h
 rw [← mv_beq h3]
 exact mapTy_ok h1
theorem mkey_ok{W:Nat→Prop}{k:IntKind}{n:Nat}{x:AV}{u:Value}{xs:List Int}(hx:Rep w W ρ x u)(h:mkey k n x=some xs):u=keyV k n xs∧keyOk k n xs:=by
 unfold mkey at h
 split at h <;> try contradiction
 ·split at h <;> try contradiction
  rename_i k' y hk
  rw [decide_eq_true_eq] at hk;subst hk
  injection h with h;subst h
  cases hx with | int _ _ hh=>
  exact⟨rfl,rfl,fun z hz=>by simp at hz;rw [hz];exact hh⟩
 ·rename_i m n' k' ys
  split at h <;> try contradiction
  rename_i hk
  simp only [Bool.and_eq_true,decide_eq_true_eq,Nat.beq_eq] at hk
  obtain⟨rfl,rfl⟩:=hk
  injection h with h;subst h
  cases hx with | agg _ _ cs hw hr hc hrep=>
  have hl:ys.length=m+1:=hr
  have hcell:∀ j,j < m+1→cs.getD j Go.undef=.int k (ys.getD j 0)∧k.has (ys.getD j 0):=fun j hj=>by
   have:=hrep j hj
   simp only [AV.cell] at this
   generalize cs.getD j Go.undef=u at this
   cases this with | int _ _ hh=>exact⟨rfl,hh⟩
  refine⟨?_,hl,fun z hz=>?_⟩
  ·simp only [keyV]
   congr 1
   apply Array.ext
   ·simp [hc,hl]
   ·intro j h1 h2
    have:=(hcell j (by omega)).1
    rw [Array.getD_eq_getD_getElem?,Array.getElem?_eq_getElem h1] at this
    simp only [Option.getD_some] at this
    rw [this]
    simp [List.getD_eq_getElem?_getD,List.getElem?_eq_getElem (show j < ys.length by omega)]
  ·obtain⟨j,hj,rfl⟩:=List.mem_iff_getElem.1 hz
   have:=(hcell j (by omega)).2
   rwa [List.getD_eq_getElem?_getD,List.getElem?_eq_getElem hj] at this
theorem keyV_rep{W:Nat→Prop}{k:IntKind}{n:Nat}{xs:List Int}(h:keyOk k n xs)(hn:0 < n):Rep w W ρ (.agg n (.rI k xs)) (keyV k n xs):=by
 obtain⟨m,rfl⟩:∃ m,n=m+1:=⟨n-1,by omega⟩
 have hl:xs.length=m+1:=h.1
 refine .agg _ _ _ trivial hl (by simp [hl]) fun j hj=>?_
 have e:(xs.map (Value.int k)).toArray.getD j Go.undef=.int k (xs.getD j 0):=by
  rw [Array.getD_eq_getD_getElem?]
  simp [List.getD_eq_getElem?_getD,List.getElem?_eq_getElem (show j < xs.length by omega)]
 rw [e]
 refine .int k _ ?_
 rw [List.getD_eq_getElem?_getD,List.getElem?_eq_getElem (show j < xs.length by omega)]
 exact h.2 _ (List.getElem_mem _)
def fnd:List MapEntry→List (Li×Li)→List Int→Nat→Option (Nat×Value)
 | m :: ms,e :: es,x,i=>cond (e.1==x) (some (i,m.val)) (fnd ms es x (i+1))
 | _,_,_,_=>none
def KeysAre(k:IntKind)(n:Nat):List MapEntry→List (Li×Li)→Prop
 | [],[]=>True
 | m :: ms,e :: es=>(m.key=keyV k n e.1∧keyOk k n e.1)∧KeysAre k n ms es
 | _,_=>False
theorem findNow_run{k:IntKind}{x:Int}:∀ (ms:List MapEntry) (es:List (Li×Li)) (i:Nat),KeysAre k 0 ms es→Instr.findNow (.int k) (.int k x) ms i=some (fnd ms es [x] i)
 | [],[],i,_=>rfl
 | [],_ :: _,_,h=>h.elim
 | _ :: _,[],_,h=>h.elim
 | m :: ms,e :: es,i,h=>by
  obtain⟨⟨h1,h2⟩,h3⟩:=h
  obtain⟨y,hy⟩:∃ y,e.1=[y]:=by
   have hl:e.1.length=1:=h2.1
   match e.1,hl with
   | [y],_=>exact⟨y,rfl⟩
  have ih:=findNow_run (x:=x) ms es (i+1) h3
  have hk:m.key=.int k y:=by rw [h1,hy];rfl
  simp only [Instr.findNow,Instr.sameNow,hk,if_true,fnd,hy]
  have e1:([y]==[x])=(x==y):=by
   rw [Bool.eq_iff_iff,beq_iff_eq,beq_iff_eq]
   simp only [List.cons.injEq,and_true]
   exact eq_comm
  rw [e1]
  cases x==y with
  | true=>rfl
  | false=>exact ih
theorem findAsking_run(h:TysOk P V.T){kt e n:Nat}{k:IntKind}(hd:(V.T.at kt).d=.arr n e)(he:(V.T.at e).d=.int k)(hn:0 < n){x:List Int}(hx:keyOk k n x)(w:World):∀ (ms:List MapEntry) (es:List (Li×Li)) (i:Nat),KeysAre k n ms es →
  (Instr.findAsking kt (keyV k n x) ms i).run P w=.ok (fnd ms es x i) w
 | [],[],i,_=>rfl
 | [],_ :: _,_,h=>h.elim
 | _ :: _,[],_,h=>h.elim
 | m :: ms,e' :: es,i,hk=>by
  obtain⟨⟨h1,h2⟩,h3⟩:=hk
  have ih:=findAsking_run h hd he hn hx w ms es (i+1) h3
  have hq:=(run_equal_agg (b:=x==e'.1) h (keyV_rep (w:=w) (W:=fun _=>False) (ρ:=⟨fun _=>none,fun _=>none⟩) hx hn) (keyV_rep h2 hn) (by
   unfold aeq
   rw [hd]
   simp only [he,show Nat.beq n n=true from Nat.beq_refl n,Bool.and_self,decide_true])).1
  have e1:(e'.1==x)=(x==e'.1):=by
   rw [Bool.eq_iff_iff,beq_iff_eq,beq_iff_eq]
   exact eq_comm
  simp only [Instr.findAsking,Sem.run_bind,h1,hq,Result.andThen_ok,fnd,e1]
  cases x==e'.1 with
  | true=>simp
  | false=>simpa using ih
theorem findKey_run(h:TysOk P V.T){kt n:Nat}{k:IntKind}(ht:KeyTy V.T kt k n){x:List Int}(hx:keyOk k n x){ms:List MapEntry}{es:List (Li×Li)}(hk:KeysAre k n ms es)(w:World):
  (Instr.findKey kt (keyV k n x) ms).run P w=.ok (fnd ms es x 0) w:=by
 rcases ht with ⟨rfl,hd⟩ | ⟨e,hn,hd,he⟩
 ·obtain⟨y,rfl⟩:∃ y,x=[y]:=by
   have hl:x.length=1:=hx.1
   match x,hl with
   | [y],_=>exact⟨y,rfl⟩
  have hu:=(h kt).int k hd
  have:=findNow_run (x:=y) ms es 0 hk
  simp only [Instr.findKey,Sem.run_bind,run_underlying' hu,Result.andThen_ok]
  show(match Instr.findNow (.int k) (.int k y) ms 0 with | some r=>pure r | none=>Instr.findAsking kt (.int k y) ms:Sem _).run P w=_
  rw [this];rfl
 ·have hu:=(h kt).arr n e hd
  simp only [Instr.findKey,Sem.run_bind,run_underlying' hu,Result.andThen_ok]
  cases ms with
  | nil=>
   cases es with
   | nil=>rfl
   | cons _ _=>exact hk.elim
  | cons m ms=>
   have hz:Instr.findNow (.array n e) (keyV k n x) (m :: ms) 0=none:=by
    simp only [Instr.findNow,Instr.sameNow]
   rw [hz]
   exact findAsking_run h hd he hn hx w _ _ 0 hk
theorem checkKey_run(h:TysOk P V.T){kt n:Nat}{k:IntKind}(ht:KeyTy V.T kt k n){x:List Int}(hx:keyOk k n x)(em:Bool)(w:World):
  (Instr.checkKey em 10000 kt (keyV k n x)).run P w=.ok () w:=by
 rcases ht with ⟨rfl,hd⟩ | ⟨e,hn,hd,he⟩
 ·have hu:=(h kt).int k hd
  rw [show(10000:Nat)=9999+1 from rfl,Instr.checkKey]
  simp only [Sem.run_bind,run_underlying' hu,Result.andThen_ok]
  rfl
 ·obtain⟨m,rfl⟩:∃ m,n=m+1:=⟨n-1,by omega⟩
  have hu:=(h kt).arr _ e hd
  have hue:=(h e).int k he
  have hs1:=(h e).int1 k he
  obtain⟨i,hi,his⟩:=(h e).size (by omega)
  rw [show(10000:Nat)=9999+1 from rfl,Instr.checkKey]
  simp only [Sem.run_bind,run_underlying' hu,Result.andThen_ok,keyV]
  have hl:x.length=m+1:=hx.1
  simp only [Std.Legacy.Range.forIn_eq_forIn_range',Std.Legacy.Range.size,Nat.sub_zero,Nat.add_one_sub_one,Nat.div_one]
  have hall:∀ j∈List.range' 0 (m+1),j < m+1:=fun j hj=>by
   have:=List.mem_range'_1.1 hj;omega
  generalize List.range' 0 (m+1)=is at hall
  induction is with
  | nil=>simp
  | cons j is ih=>
   have hj:=hall j (List.mem_cons_self ..)
   have hp:(part e (x.map (Value.int k)).toArray (j*1)).run P w=.ok (.int k (x.getD j 0)) w:=by
    have hg:(x.map (Value.int k)).toArray[j*1]?=some (.int k (x.getD j 0)):=by
     simp [List.getD_eq_getElem?_getD,List.getElem?_eq_getElem (show j < x.length by omega)]
    simp only [part,Sem.run_bind,run_isAgg_one h (show(V.T.at e).d.isAgg=false by rw [he];rfl) hs1,Result.andThen_ok,hg]
    rfl
   have hc:(Instr.checkKey em 9999 e (.int k (x.getD j 0))).run P w=.ok () w:=by
    rw [show(9999:Nat)=9998+1 from rfl,Instr.checkKey]
    simp only [Sem.run_bind,run_underlying' hue,Result.andThen_ok]
    rfl
   simp only [List.forIn_cons,Sem.run_bind,run_sizeOf' h (show 0 < (V.T.at e).sz by omega),hs1,Result.andThen_ok,hp,hc,Sem.run_pure]
   exact ih (fun y hy=>hall y (List.mem_cons_of_mem _ hy))
theorem keysAre_of{W:Nat→Prop}{k:IntKind}{n:Nat}{v:MV}:∀ {ms:List MapEntry} {es:List (Li×Li)},MEnts w W ρ k n v ms es→(∀ e∈es,keyOk k n e.1)→KeysAre k n ms es
 | [],[],_,_=>trivial
 | m :: ms,e :: es,h,hk=>⟨⟨h.1.1,hk e (List.mem_cons_self ..)⟩,keysAre_of h.2 fun x hx=>hk x (List.mem_cons_of_mem _ hx)⟩
 | [],_ :: _,h,_=>h.elim
 | _ :: _,[],h,_=>h.elim
theorem fnd_spec{W:Nat→Prop}{k:IntKind}{n:Nat}{v:MV}(z x:Li):∀ {ms:List MapEntry} {es:List (Li×Li)} (i:Nat),MEnts w W ρ k n v ms es →
  (mhas es x=false∧fnd ms es x i=none∧mget z es x=z)∨(mhas es x=true ∧ ∃ j u,fnd ms es x i=some (j,u)∧Rep w W ρ (mval v (mget z es x)) u)
 | [],[],i,_=>.inl ⟨rfl,rfl,rfl⟩
 | [],_ :: _,_,h=>h.elim
 | _ :: _,[],_,h=>h.elim
 | m :: ms,e :: es,i,h=>by
  have ih:=fnd_spec z x (ms:=ms) (es:=es) (i+1) h.2
  simp only [fnd,mget,mhas,List.any_cons]
  cases hb:e.1==x with
  | true=>right;exact⟨rfl,i,m.val,rfl,h.1.2⟩
  | false=>simpa only [Bool.false_or,cond_false,mhas] using ih
theorem fnd_upd{W:Nat→Prop}{k:IntKind}{n:Nat}{v:MV}(x:Li):∀ {ms:List MapEntry} {es:List (Li×Li)} (i:Nat),MEnts w W ρ k n v ms es →
  (fnd ms es x i=none ∧ ∀ val vv born,Rep w W ρ (mval v val) vv→MEnts w W ρ k n v (ms++[⟨keyV k n x,vv,born⟩]) (mput es x val)) ∨
  ∃ t u m,fnd ms es x i=some (i+t,u)∧ms[t]?=some m∧m.key=keyV k n x ∧ ∀ val vv,Rep w W ρ (mval v val) vv→MEnts w W ρ k n v (ms.modify t fun e=>{ e with key:=keyV k n x,val:=vv }) (mput es x val)
 | [],[],i,_=>.inl ⟨rfl,fun val vv born hv=>⟨⟨rfl,hv⟩,trivial⟩⟩
 | [],_ :: _,_,h=>h.elim
 | _ :: _,[],_,h=>h.elim
 | m :: ms,e :: es,i,h=>by
  have ih:=fnd_upd x (ms:=ms) (es:=es) (i+1) h.2
  simp only [fnd,mput]
  cases hb:e.1==x with
  | true=>
   have he:e.1=x:=by simpa using hb
   right
   refine⟨0,m.val,m,rfl,rfl,by rw [h.1.1,he],fun val vv hv=>?_⟩
   simp only [cond_true,List.modify_zero_cons]
   exact⟨⟨rfl,hv⟩,h.2⟩
  | false=>
   simp only [cond_false]
   rcases ih with ⟨g1,g2⟩ | ⟨t,u,m',g1,g2,g3,g4⟩
   ·exact .inl ⟨g1,fun val vv born hv=>⟨h.1,g2 val vv born hv⟩⟩
   ·right
    refine⟨t+1,u,m',by rw [g1];congr 2;omega,g2,g3,fun val vv hv=>?_⟩
    simp only [List.modify_succ_cons]
    exact⟨h.1,g4 val vv hv⟩
theorem mput_keys(x v:Li):∀ es:List (Li×Li),(mput es x v).map (·.1)=cond (mhas es x) (es.map (·.1)) (es.map (·.1)++[x])
 | []=>rfl
 | e :: es=>by
  have ih:=mput_keys x v es
  have hh:mhas (e :: es) x=(e.1==x || mhas es x):=rfl
  rw [hh]
  simp only [mput]
  by_cases he:e.1=x
  ·have hb:(e.1==x)=true:=by simp [he]
   rw [hb,cond_true,Bool.true_or,cond_true,List.map_cons,List.map_cons,he]
  ·have hb:(e.1==x)=false:=by simp [he]
   rw [hb,cond_false,Bool.false_or,List.map_cons,ih,List.map_cons]
   cases mhas es x <;> rfl
theorem mput_nd{x v:List Int}{es:List (Li×Li)}(h:(es.map (·.1)).Nodup):((mput es x v).map (·.1)).Nodup:=by
 rw [mput_keys]
 cases hm:mhas es x with
 | true=>exact h
 | false=>
  refine List.nodup_append.2 ⟨h,by simp,fun a ha b hb hab=>?_⟩
  simp only [List.mem_singleton] at hb
  subst hb;subst hab
  obtain⟨e,he,rfl⟩:=List.mem_map.1 ha
  have:mhas es e.1=true:=List.any_eq_true.2 ⟨e,he,by simp⟩
  rw [hm] at this;cases this
theorem mput_ok{k:IntKind}{n:Nat}{x v:List Int}{es:List (Li×Li)}(h:∀ e∈es,keyOk k n e.1)(hx:keyOk k n x):∀ e∈mput es x v,keyOk k n e.1:=by
 intro e he
 have:e.1∈(mput es x v).map (·.1):=List.mem_map.2 ⟨e,he,rfl⟩
 rw [mput_keys] at this
 have main:e.1∈es.map (·.1)→keyOk k n e.1:=fun h1=>by
  obtain⟨e',h1,h2⟩:=List.mem_map.1 h1
  rw [← h2];exact h e' h1
 cases hm:mhas es x with
 | true=>rw [hm] at this;exact main this
 | false=>
  rw [hm] at this
  rcases List.mem_append.1 this with h1 | h1
  ·exact main h1
  ·simp only [List.mem_singleton] at h1
   rw [h1];exact hx
theorem sameBits_ints(k:IntKind)(n:Nat):∀ xs:List Int,((xs.map (Value.int k)).zip (xs.map (Value.int k))).all (fun (p:Value×Value)=>Instr.sameBits (n+1) p.1 p.2)=true
 | []=>rfl
 | x :: xs=>by
  simp only [List.map_cons,List.zip_cons_cons,List.all_cons,sameBits_ints k n xs,Bool.and_true]
  simp [Instr.sameBits]
theorem stays_run{k:IntKind}{n:Nat}(x:Li)(w:World):(Instr.keyThatStays (keyV k n x) (keyV k n x)).run P w=.ok (keyV k n x) w:=by
 have:Instr.sameBits 10000 (keyV k n x) (keyV k n x)=true:=by
  rw [show(10000:Nat)=9998+1+1 from rfl]
  cases n with
  | zero=>simp [keyV,Instr.sameBits]
  | succ n=>
   simp only [keyV,Instr.sameBits,beq_self_eq_true,Bool.true_and]
   exact sameBits_ints k 9998 x
 unfold Instr.keyThatStays
 rw [if_pos this];rfl
theorem born_push{ms:Array MapEntry}{clock:Nat}{k v:Value}(h:Born ms clock):Born (ms.push ⟨k,v,clock⟩) (clock+1):=by
 refine⟨fun x hx=>?_,?_⟩
 ·simp only [Array.toList_push,List.mem_append,List.mem_singleton] at hx
  rcases hx with hx | rfl
  ·exact Nat.lt_succ_of_lt (h.1 x hx)
  ·exact Nat.lt_succ_self _
 ·simp only [Array.toList_push,List.map_append,List.map_cons,List.map_nil]
  refine List.nodup_append.2 ⟨h.2,by simp,?_⟩
  intro a ha b hb
  simp only [List.mem_singleton] at hb
  subst hb
  obtain⟨x,hx,rfl⟩:=List.mem_map.1 ha
  exact Nat.ne_of_lt (h.1 x hx)
theorem map_modify_id{α β:Type}(g:α→β)(f:α→α)(hf:∀ a,g (f a)=g a):∀ (l:List α) (i:Nat),(l.modify i f).map g=l.map g
 | [],i=>by cases i <;> rfl
 | a :: l,0=>by simp [hf]
 | a :: l,i+1=>by simp [map_modify_id g f hf l i]
theorem born_modify{ms:Array MapEntry}{clock:Nat}(h:Born ms clock)(i:Nat)(f:MapEntry→MapEntry)(hf:∀ e,(f e).born=e.born):Born (ms.modify i f) clock:=by
 have e:(ms.modify i f).toList.map (·.born)=ms.toList.map (·.born):=by
  rw [Array.toList_modify];exact map_modify_id _ _ hf _ _
 refine⟨fun x hx=>?_,by rw [e];exact h.2⟩
 have h1:x.born∈(ms.modify i f).toList.map (·.born):=List.mem_map_of_mem hx
 rw [e] at h1
 obtain⟨y,hy,hyb⟩:=List.mem_map.1 h1
 rw [← hyb];exact h.1 y hy
theorem born_erase{ms:Array MapEntry}{clock:Nat}(h:Born ms clock)(i:Nat):Born (ms.eraseIdxIfInBounds i) clock:=by
 have hs:List.Sublist (ms.eraseIdxIfInBounds i).toList ms.toList:=by
  rw [Array.toList_eraseIdxIfInBounds];exact List.eraseIdx_sublist _ _
 exact⟨fun x hx=>h.1 x (hs.subset hx),h.2.sublist (hs.map _)⟩
theorem Sim.rewriteM'(h:Sim U V.G w0 W0 ρ s a w){id n:Nat}{k:IntKind}{kn:Nat}{v v':MV}{es es':List (Li×Li)}{L:Loc}{ms':Array MapEntry}{clock:Nat}
  (hl:lkH id s.heap=.cells n (.rM k kn v es) true) (hL:ρ id=some (some L)) (hc:MEnts w (Wr U ρ s.heap) ρ k kn v' ms'.toList es') (hk:∀ e∈es',keyOk k kn e.1) (hnd:(es'.map (·.1)).Nodup) (hbo:Born ms' clock)
  (hh:∀ w':World,w'.heap[L.b]?=some (.map ms' clock)→(∀ b,b≠L.b→w'.heap[b]?=w.heap[b]?)→Hid w' ρ L.b v' es') :
  Sim U V.G w0 W0 ρ (s.setH id (.cells 0 (.rM k kn v' es') true)) a { w with heap:=w.heap.setIfInBounds L.b (.map ms' clock) }:=by
 have hlt:=h.loc_lt hl hL
 generalize hw':({ w with heap:=w.heap.setIfInBounds L.b (.map ms' clock) }:World)=w'
 have hheap:w'.heap=w.heap.setIfInBounds L.b (.map ms' clock):=by rw [← hw']
 have hsm:WSame w w':=by rw [← hw'];exact⟨rfl,rfl,rfl⟩
 have hsz:w'.heap.size=w.heap.size:=by rw [hheap];simp
 have hother:∀ b,b≠L.b→w'.heap[b]?=w.heap[b]?:=fun b hb=>by
  rw [hheap,Array.getElem?_setIfInBounds_ne (Ne.symm hb)]
 have hself:w'.heap[L.b]?=some (.map ms' clock):=by
  rw [hheap,Array.getElem?_setIfInBounds_self_of_lt hlt]
 have hWL:WrO ρ s.heap L.b:=.inr ⟨id,n,_,L,hl,hL,rfl⟩
 have hn:L.n=n∧n=0:=by
  have hb:=h.bl id n _ true hl
  have h0:n=0:=hb.size.symm
  rcases hb.lies with ⟨h1,_⟩ | ⟨L',h1,h2,_⟩
  ·rw [h1] at hL;cases hL
  ·rw [h1] at hL;cases hL;exact⟨h2,h0⟩
 have hfr:∀ b,b < w.heap.size→¬ WrO ρ s.heap b→w'.heap[b]?=w.heap[b]?:=fun b _ hb=>hother b fun e=>hb (e▸hWL)
 have wo:∀ b,WrO ρ ((id,.cells 0 (.rM k kn v' es') true) :: s.heap) b→WrO ρ s.heap b∨w.heap.size≤b:=by
  rintro b (hx | ⟨i,n',r1,L',h1,h2,h3⟩)
  ·exact .inl (.inl hx)
  rw [lkH_put] at h1
  by_cases hi:i=id
  ·subst hi;exact .inl (.inr ⟨i,n,_,L',hl,h2,h3⟩)
  ·rw [if_neg hi] at h1;exact .inl (.inr ⟨i,n',r1,L',h1,h2,h3⟩)
 refine h.step hfr wo (fun _ _ h=>h) (by omega) hsm ?_ ?_ ?_ ?_ (h.xk.step (by omega) (fun _ _ h=>h) fun i n' r1 c1 L' h1 h2=>?_)
 ·intro i n' r1 b hl1
  rw [lkH_put] at hl1
  by_cases hi:i=id
  ·subst hi
   rw [if_pos rfl] at hl1;cases hl1
   refine⟨(fun hm=>by cases hm),rfl,.inr ⟨L,hL,by omega,(fun j hj=>by omega),(fun _ hm=>by cases hm),by omega⟩,fun k1 kn1 v1 es1 e=>?_,fun _ ht=>by cases ht⟩
   cases e
   exact⟨L,hL,⟨⟨ms',clock,hself,hc.mono fun x u hx=>hx.step hfr wo (fun _ _ h=>h)⟩,hk,hnd,(fun ms1 c1 hh=>by rw [hself] at hh;cases hh;exact hbo),hh w' hself hother⟩⟩
  ·rw [if_neg hi] at hl1
   refine(h.bl i n' r1 b hl1).keep hfr wo (fun _ _ h=>h) (by omega) (fun L' hL' _=>hother _ fun e=>hi ?_) (fun L' _ c hc=>⟨hother c fun e=>h.xk.s c _ id n _ true L hc hl hL e.symm,rfl⟩)
   exact(h.sep id i n _ n' r1 b L L' hl hl1 hL hL' e.symm).symm
 ·intro i i' n1 r1 n2 r2 b2 L1 L2 h1 h2 h3 h4 h5
  rw [lkH_put] at h1 h2
  have g1:∃ n1 r1,lkH i s.heap=.cells n1 r1 true:=by
   by_cases hi:i=id
   ·exact⟨n,_,hi▸hl⟩
   ·rw [if_neg hi] at h1;exact⟨_,_,h1⟩
  have g2:∃ n1 r1 b1,lkH i' s.heap=.cells n1 r1 b1:=by
   by_cases hi:i'=id
   ·exact⟨n,_,true,hi▸hl⟩
   ·rw [if_neg hi] at h2;exact⟨_,_,_,h2⟩
  obtain⟨_,_,g1⟩:=g1
  obtain⟨_,_,_,g2⟩:=g2
  exact h.sep i i' _ _ _ _ _ L1 L2 g1 g2 h3 h4 h5
 ·intro i hi
  rw [hasKey_put];simp [h.dom i hi]
 ·intro i n1 r1 b1 L1 h1 h2
  rw [lkH_put] at h1
  by_cases hi:i=id
  ·exact h.su i n _ true L1 (hi▸hl) h2
  ·rw [if_neg hi] at h1;exact h.su i n1 r1 b1 L1 h1 h2
 ·rw [lkH_put] at h1
  by_cases hi:i=id
  ·exact .inl ⟨i,n,_,true,L',hi▸hl,h2,rfl⟩
  ·rw [if_neg hi] at h1;exact .inl ⟨i,n',r1,c1,L',h1,h2,rfl⟩
theorem Sim.rewriteM(h:Sim U V.G w0 W0 ρ s a w){id n:Nat}{k:IntKind}{kn:Nat}{v:MV}{es es':List (Li×Li)}{L:Loc}{ms':Array MapEntry}{clock:Nat}
  (hl:lkH id s.heap=.cells n (.rM k kn v es) true) (hL:ρ id=some (some L)) (hv:v.okind=none) (hc:MEnts w (Wr U ρ s.heap) ρ k kn v ms'.toList es') (hk:∀ e∈es',keyOk k kn e.1) (hnd:(es'.map (·.1)).Nodup) (hbo:Born ms' clock) :
  Sim U V.G w0 W0 ρ (s.setH id (.cells 0 (.rM k kn v es') true)) a { w with heap:=w.heap.setIfInBounds L.b (.map ms' clock) }:=
 h.rewriteM' hl hL hc hk hnd hbo fun _ _ _=>Hid.no hv
theorem Sim.newMap(h:Sim U V.G w0 W0 ρ s a w){id:Nat}{k:IntKind}{kn:Nat}{v:MV}(hid:hasKey id s.heap=false):
  Sim U V.G w0 W0 (ρ.set id (some ⟨w.heap.size,0,0,0,0⟩)) (s.setH id (.cells 0 (.rM k kn v []) true)) a (w.alloc (.map #[] 0)):=by
 generalize hw'':w.alloc (.map #[] 0)=w'
 have hw':w'.heap=w.heap.push (.map #[] 0):=by rw [← hw''];rfl
 have hsm:WSame w w':=by rw [← hw''];exact⟨rfl,rfl,rfl⟩
 have hne:ρ id=none:=by
  cases hh:ρ id with
  | none=>rfl
  | some x=>have:=h.dom id (by rw [hh];simp);rw [hid] at this;cases this
 have hold:∀ b,b < w.heap.size→w'.heap[b]?=w.heap[b]?:=fun b hb=>by
  rw [hw',Array.getElem?_push,if_neg (by omega)]
 have hnew:w'.heap[w.heap.size]?=some (.map #[] 0):=by rw [hw',Array.getElem?_push,if_pos rfl]
 have hρ:∀ i x,ρ i=some x→(ρ.set id (some ⟨w.heap.size,0,0,0,0⟩)) i=some x:=fun i x hx=>by
  rw [Rho.set_other];exact hx
  rintro rfl;rw [hne] at hx;cases hx
 have wo:∀ b,WrO (ρ.set id (some ⟨w.heap.size,0,0,0,0⟩)) ((id,.cells 0 (.rM k kn v []) true) :: s.heap) b→WrO ρ s.heap b∨w.heap.size≤b:=by
  rintro b (hx | ⟨i,n',r',L,h1,h2,h3⟩)
  ·exact .inl (.inl hx)
  rw [lkH_put] at h1
  by_cases hi:i=id
  ·subst hi;rw [Rho.set_same] at h2;cases h2;right;rw [← h3];exact Nat.le_refl _
  ·rw [if_neg hi] at h1;rw [Rho.set_other _ _ hi] at h2;exact .inl (.inr ⟨i,n',r',L,h1,h2,h3⟩)
 have hsz:w.heap.size≤w'.heap.size:=by rw [hw'];simp
 refine h.step (fun b hb _=>hold b hb) wo hρ hsz hsm ?_ ?_ ?_ ?_ (h.xk.step hsz (fun _ _ h=>h) fun i n' r' c' L h1 h2=>?_)
 ·intro i n' r' b hl
  rw [lkH_put] at hl
  by_cases hi:i=id
  ·subst hi
   rw [if_pos rfl] at hl;cases hl
   refine⟨(fun hm=>by cases hm),rfl,.inr ⟨_,Rho.set_same _ _ _,rfl,(fun j hj=>by omega),(fun _ hm=>by cases hm),by rw [hw'];simp⟩,fun k1 kn1 v1 es1 e=>?_,fun _ ht=>by cases ht⟩
   cases e
   exact⟨_,Rho.set_same _ _ _,⟨⟨#[],0,hnew,trivial⟩,(fun e he=>by simp at he),List.nodup_nil,(fun ms1 c1 hh=>by rw [hnew] at hh;cases hh;exact⟨fun x hx=>by simp at hx,List.nodup_nil⟩),fun k' _=>⟨fun _=>0,(fun e he=>by simp at he),(fun e he=>by simp at he),fun ms1 c1 hh=>by rw [hnew] at hh;cases hh;trivial⟩⟩⟩
  ·rw [if_neg hi] at hl
   exact(h.bl i n' r' b hl).keep (fun b hb _=>hold b hb) wo hρ hsz (fun L _ hlt=>hold _ hlt) (fun L _ c hc=>⟨hold c (h.xk.l _ _ hc),rfl⟩)
 ·intro i i' n1 r1 n2 r2 b2 L L' h1 h2 h3 h4 h5
  rw [lkH_put] at h1 h2
  by_cases hi:i=id <;> by_cases hi':i'=id
  ·rw [hi,hi']
  ·subst hi
   rw [if_neg hi'] at h2;rw [Rho.set_same] at h3;rw [Rho.set_other _ _ hi'] at h4
   cases h3
   have:=h.loc_lt h2 h4
   simp only at h5;omega
  ·subst hi'
   rw [if_neg hi] at h1;rw [Rho.set_same] at h4;rw [Rho.set_other _ _ hi] at h3
   cases h4
   have:=h.loc_lt h1 h3
   simp only at h5;omega
  ·rw [if_neg hi] at h1;rw [if_neg hi'] at h2;rw [Rho.set_other _ _ hi] at h3;rw [Rho.set_other _ _ hi'] at h4
   exact h.sep i i' n1 r1 n2 r2 b2 L L' h1 h2 h3 h4 h5
 ·intro i hi
  rw [hasKey_put]
  by_cases he:i=id
  ·simp [he]
  ·rw [Rho.set_other _ _ he] at hi;simp [h.dom i hi]
 ·intro i n1 r1 b1 L1 h1 h2 hU
  rw [lkH_put] at h1
  by_cases hi:i=id
  ·subst hi
   rw [Rho.set_same] at h2;cases h2
   have:=(h.uo _ hU).1
   have:=h.sz
   simp only at *
   omega
  ·rw [if_neg hi] at h1;rw [Rho.set_other _ _ hi] at h2
   exact h.su i n1 r1 b1 L1 h1 h2 hU
 ·rw [lkH_put] at h1
  by_cases hi:i=id
  ·subst hi;rw [Rho.set_same] at h2;cases h2;exact .inr (Nat.le_refl _)
  ·rw [if_neg hi] at h1;rw [Rho.set_other _ _ hi] at h2;exact .inl ⟨i,n',r',c',L,h1,h2,rfl⟩
theorem mzero_ok(h:TysOk P V.T){et:Nat}{v:MV}(he:ElTy V.T et v)(w:World)(W:Nat→Prop)(ρ:Rho):∃ z,(zeroValue et).run P w=.ok z w∧Rep w W ρ (mval v (mzero v)) z:=by
 have agg:∀ {r:AV},zvar V.T 16 et=some r → ∃ z,(zeroValue et).run P w=.ok z w∧z.cells.size=(V.T.at et).sz∧Rep w W ρ (.agg (V.T.at et).sz r) (.agg z.cells)∧aggB z (V.T.at et).d.isAgg=true:=fun {r} hr=>by
  obtain⟨_,z,g1,g2,g3⟩:=zero_ok h hr w W ρ
  obtain⟨i,z',h1,h2,h3⟩:=(h et).zagg r hr
  have:=run_zeroValue' (P:=P) h1 h2 w
  rw [this] at g1
  injection g1 with g1
  subst g1
  exact⟨_,this,g2,g3,h3⟩
 have scal:∀ {x:AV},zvar V.T 16 et=some (.one x)→(V.T.at et).d.isAgg=false → ∃ z,(zeroValue et).run P w=.ok z w∧Rep w W ρ x z:=fun {x} hr hf=>by
  obtain⟨z,g1,g2,g3,g4⟩:=agg hr
  rw [hf] at g4
  have hz:z.cells = #[z]:=by
   cases z <;> first | rfl | (simp [aggB] at g4)
  rw [hz] at g3
  cases g3 with | agg _ _ cs hw hsz hc hrep=>
  have h1:0 < (V.T.at et).sz:=by rw [← hsz];exact Nat.one_pos
  exact⟨z,g1,hrep 0 h1⟩
 cases v with
 | one k=>
  have hd:(V.T.at et).d=.int k:=he
  exact scal (x:=.int k 0) (by unfold zvar;rw [hd]) (by rw [hd];rfl)
 | bool=>
  have hd:(V.T.at et).d=.bool:=he
  exact scal (x:=.bool false) (by unfold zvar;rw [hd]) (by rw [hd];rfl)
 | arr k n=>
  obtain⟨e,hd,hk⟩:=he
  have hz:zvar V.T 16 et=some (.rI k (List.replicate n 0)):=by
   unfold zvar;rw [hd];simp only;unfold zrow;rw [hk]
  obtain⟨z,g1,g2,g3,g4⟩:=agg hz
  rw [hd] at g4
  have hz':∃ cs,z=.agg cs:=by
   cases z <;> first | exact⟨_,rfl⟩ | (simp [aggB,TyD.isAgg] at g4)
  obtain⟨cs,rfl⟩:=hz'
  have hsz:(V.T.at et).sz=n:=by
   cases g3 with | agg _ _ cs hw hsz hc hrep=>rw [← hsz];simp [AV.size]
  rw [hsz] at g3
  exact⟨_,g1,g3⟩
 | sl k=>
  obtain⟨e,hd,hk⟩:=he
  obtain⟨z,g1,g2⟩:=scal (x:=.ns) (by unfold zvar;rw [hd]) (by rw [hd];rfl)
  cases g2
  exact⟨_,g1,.vs0 _ 1 0 none rfl rfl⟩
 | osl k=>exact he.elim
 | oslx k key=>exact he.elim
theorem minto_ok{W:Nat→Prop}{v:MV}{x:AV}{u:Value}{xs:List Int}(hx:Rep w W ρ x u)(h:minto v x=some xs):Rep w W ρ (mval v xs) u:=by
 unfold minto at h
 split at h <;> try contradiction
 ·split at h <;> try contradiction
  rename_i k k' y hk
  rw [decide_eq_true_eq] at hk;subst hk
  injection h with h;subst h;exact hx
 ·split at h <;> try contradiction
  rename_i k n m k' ys hk
  simp only [Bool.and_eq_true,decide_eq_true_eq,Nat.beq_eq] at hk
  obtain⟨rfl,rfl⟩:=hk
  injection h with h;subst h;exact hx
 ·rename_i b
  injection h with h;subst h
  cases b <;> exact hx
 ·split at h <;> try contradiction
  rename_i k k' ys hk
  rw [decide_eq_true_eq] at hk;subst hk
  injection h with h;subst h;exact hx
theorem makeMap_ok(h:TysOk P V.T)(hs:Sim U V.G w0 W0 ρ s a w){t:Nat}(ho:o.op=.makeMap t none){i:Nat}(ha:aop V i o s=some (true,av,s')):OpOk U P V w0 W0 o a w av s':=by
 simp only [aop,ho] at ha
 split at ha <;> try contradiction
 rename_i k n v hm hk
 simp only [Option.some.injEq,Prod.mk.injEq,true_and] at ha
 obtain⟨rfl,rfl⟩:=ha
 refine ok_value (v:=.map (some w.heap.size)) (w':=w.alloc (.map #[] 0)) ?_ (hs.newMap hk) (.mp _ ⟨w.heap.size,0,0,0,0⟩ (Rho.set_same _ _ _))
 simp only [execOp,ho]
 exact run_v (by simp [Instr.makeMap])
theorem map_at(hs:Sim U V.G w0 W0 ρ s a w){id n:Nat}{k:IntKind}{kn:Nat}{v:MV}{es:List (Li×Li)}{b:Bool}{u:Value}(hx:Rep w (Wr U ρ s.heap) ρ (.mp id) u)(hl:lkH id s.heap=.cells n (.rM k kn v es) b):
  ∃ L ms clock,u=.map (some L.b)∧ρ id=some (some L)∧w.heap[L.b]?=some (.map ms clock)∧MEnts w (Wr U ρ s.heap) ρ k kn v ms.toList es∧(∀ e∈es,keyOk k kn e.1)∧(es.map (·.1)).Nodup∧Born ms clock:=by
 cases hx with | mp _ L hL=>
 obtain⟨L',h1,h2⟩:=(hs.bl id n _ b hl).map k kn v es rfl
 rw [hL] at h1;cases h1
 obtain⟨ms,clock,g1,g2⟩:=h2.ex
 exact⟨L,ms,clock,rfl,hL,g1,g2,h2.keys,h2.nd,h2.bo _ _ g1⟩
theorem fnd_ge(x:Li):∀ (ms:List MapEntry) (es:List (Li×Li)) (i j:Nat) (u:Value),fnd ms es x i=some (j,u)→i≤j
 | [],[],_,_,_,h=>by cases h
 | [],_ :: _,_,_,_,h=>by cases h
 | _ :: _,[],_,_,_,h=>by cases h
 | m :: ms,e :: es,i,j,u,h=>by
  simp only [fnd] at h
  cases hb:e.1==x with
  | true=>rw [hb] at h;simp only [cond_true,Option.some.injEq,Prod.mk.injEq] at h;omega
  | false=>rw [hb] at h;have:=fnd_ge x ms es (i+1) j u h;omega
theorem fnd_updE{R R':List Int→List Int→Value→Prop}(x:Li)(hR:∀ key xs u,key≠x→R key xs u→R' key xs u):∀ {ms:List MapEntry} {es:List (Li×Li)} (i:Nat),EEnts R ms es→(es.map (·.1)).Nodup →
  (fnd ms es x i=none → ∀ kv vv born val,R' x val vv→EEnts R' (ms++[⟨kv,vv,born⟩]) (mput es x val)) ∧
  (∀ t u,fnd ms es x i=some (i+t,u) → ∀ kv vv val,R' x val vv→EEnts R' (ms.modify t fun e=>{ e with key:=kv,val:=vv }) (mput es x val))
 | [],[],i,_,_=>⟨fun _ kv vv born val hv=>⟨hv,trivial⟩,fun t u h=>by cases h⟩
 | [],_ :: _,_,h,_=>h.elim
 | _ :: _,[],_,h,_=>h.elim
 | m :: ms,e :: es,i,h,hnd=>by
  rw [List.map_cons,List.nodup_cons] at hnd
  have ih:=fnd_updE x hR (ms:=ms) (es:=es) (i+1) h.2 hnd.2
  simp only [fnd,mput]
  cases hb:e.1==x with
  | true=>
   have he:e.1=x:=by simpa using hb
   have rest:EEnts R' ms es:=h.2.mono fun e' he' u hu=>hR _ _ _ (fun h'=>hnd.1 (by rw [he,← h'];exact List.mem_map_of_mem he')) hu
   refine⟨(fun h=>by cases h),fun t u ht kv vv val hv=>?_⟩
   simp only [cond_true,Option.some.injEq,Prod.mk.injEq] at ht
   obtain rfl:t=0:=by omega
   simp only [cond_true,List.modify_zero_cons]
   exact⟨hv,rest⟩
  | false=>
   have he:e.1≠x:=by simpa using hb
   simp only [cond_false]
   refine⟨fun hn kv vv born val hv=>⟨hR _ _ _ he h.1,ih.1 hn kv vv born val hv⟩,fun t u ht kv vv val hv=>?_⟩
   cases t with
   | zero=>have:=fnd_ge x ms es (i+1) (i+0) u ht;omega
   | succ t=>
    simp only [List.modify_succ_cons]
    exact⟨hR _ _ _ he h.1,ih.2 t u (by rw [ht];congr 2;omega) kv vv val hv⟩
theorem fnd_E{R:List Int→List Int→Value→Prop}(z x:Li):∀ {ms:List MapEntry} {es:List (Li×Li)} (i:Nat),EEnts R ms es → ∀ j u,fnd ms es x i=some (j,u) → ∃ e∈es,e.1=x∧mget z es x=e.2∧R e.1 e.2 u
 | [],[],i,_,j,u,h=>by cases h
 | [],_ :: _,_,h,_,_,_=>h.elim
 | _ :: _,[],_,h,_,_,_=>h.elim
 | m :: ms,e :: es,i,h,j,u,hf=>by
  simp only [fnd,mget] at hf ⊢
  cases hb:e.1==x with
  | true=>
   rw [hb] at hf
   simp only [cond_true,Option.some.injEq,Prod.mk.injEq] at hf
   refine⟨e,List.mem_cons_self ..,by simpa using hb,rfl,?_⟩
   rw [← hf.2];exact h.1
  | false=>
   rw [hb] at hf
   obtain⟨e',h1,h2,h3,h4⟩:=fnd_E z x (i+1) h.2 j u hf
   exact⟨e',List.mem_cons_of_mem _ h1,h2,h3,h4⟩
theorem MEnts.chg{W W':Nat→Prop}{ρ ρ':Rho}{w w':World}{k:IntKind}{kn:Nat}{v v':MV}(f:∀ xs u,Rep w' W' ρ' (mval v' xs) u):
  ∀ {ms:List MapEntry} {es:List (Li×Li)},MEnts w W ρ k kn v ms es→MEnts w' W' ρ' k kn v' ms es
 | [],[],_=>trivial
 | m :: ms,e :: es,h=>⟨⟨h.1.1,f _ _⟩,MEnts.chg f h.2⟩
 | [],_ :: _,h=>h.elim
 | _ :: _,[],h=>h.elim
theorem MEnts.both{W W':Nat→Prop}{ρ ρ':Rho}{w w':World}{k:IntKind}{kn:Nat}{v v':MV}{R:List Int→List Int→Value→Prop}:∀ {ms:List MapEntry} {es:List (Li×Li)},(∀ e∈es,∀ u,R e.1 e.2 u→Rep w' W' ρ' (mval v' e.2) u)→MEnts w W ρ k kn v ms es→EEnts R ms es→MEnts w' W' ρ' k kn v' ms es
 | [],[],_,_,_=>trivial
 | m :: ms,e :: es,f,h,h'=>⟨⟨h.1.1,f e (List.mem_cons_self ..) _ h'.1⟩,MEnts.both (fun e he=>f e (List.mem_cons_of_mem _ he)) h.2 h'.2⟩
 | [],_ :: _,_,h,_=>h.elim
 | _ :: _,[],_,h,_=>h.elim
theorem mput_mem:∀ (es:List (Li×Li)) (x v:Li),∀ e∈mput es x v,e.1≠x→e∈es
 | [],x,v,e,he,hk=>by simp only [mput,List.mem_singleton] at he;rw [he] at hk;exact absurd rfl hk
 | e0 :: es,x,v,e,he,hk=>by
  simp only [mput] at he
  cases hb:e0.1==x with
  | true=>
   rw [hb] at he
   rcases List.mem_cons.1 he with rfl | he
   ·exact absurd rfl hk
   ·exact List.mem_cons_of_mem _ he
  | false=>
   rw [hb] at he
   rcases List.mem_cons.1 he with rfl | he
   ·exact List.mem_cons_self ..
   ·exact List.mem_cons_of_mem _ (mput_mem es x v e he hk)
theorem zslice_run(h:TysOk P V.T){et e:Nat}(hd:(V.T.at et).d=.slice e)(w:World):(zeroValue et).run P w=.ok (.slice none 0 0) w:=by
 have hr:zvar V.T 16 et=some (.one .ns):=by unfold zvar;rw [hd]
 obtain⟨_,z,g1,g2,g3⟩:=zero_ok h hr w (fun _=>False) ⟨fun _=>none,fun _=>none⟩
 obtain⟨i,z',h1,h2,h3⟩:=(h et).zagg _ hr
 have:=run_zeroValue' (P:=P) h1 h2 w
 rw [this] at g1
 injection g1 with g1
 subst g1
 rw [hd] at h3
 have hz:z'.cells = #[z']:=by
  cases z' <;> first | rfl | (simp [aggB,TyD.isAgg] at h3)
 rw [hz] at g3
 cases g3 with | agg _ _ cs hw hsz hc hrep=>
 have h1:0 < (V.T.at et).sz:=by rw [← hsz];exact Nat.one_pos
 have hq:Rep w (fun _=>False) (fun _=>none) .ns z':=hrep 0 h1
 cases hq
 exact this
theorem Sim.takeOut(h:Sim U V.G w0 W0 ρ s a w){id id' n:Nat}{k:IntKind}{kn:Nat}{k':IntKind}{es:List (Li×Li)}{L:Loc}{ms:Array MapEntry}{clock:Nat}{key:List Int}{j:Nat}{u:Value}
  (hl:lkH id s.heap=.cells n (.rM k kn (.osl k') es) true) (hL:ρ id=some (some L)) (hid:hasKey id' s.heap=false) (g1:w.heap[L.b]?=some (.map ms clock)) (hf:fnd ms.toList es key 0=some (j,u)) :
  ∃ ρ2,Sim U V.G w0 W0 ρ2 ((s.setH id (.cells 0 (.rM k kn (.oslx k' key) es) true)).setH id' (.cells (mget [] es key).length (.rI k' (mget [] es key)) true)) a w ∧
   Rep w (Wr U ρ2 ((s.setH id (.cells 0 (.rM k kn (.oslx k' key) es) true)).setH id' (.cells (mget [] es key).length (.rI k' (mget [] es key)) true)).heap) ρ2 (.own id' 0 1) u:=by
 have hb:=h.bl id n _ true hl
 obtain⟨L',e1,hM⟩:=hb.map k kn (.osl k') es rfl
 rw [hL] at e1;cases e1
 obtain⟨f,x1,x2,x3⟩:=hM.hid k' rfl
 obtain⟨e0,m1,m2,m3,m4⟩:=fnd_E [] key 0 (x3 ms clock g1) j u hf
 rw [m3]
 have m5:=m4 (by simp [MV.excl])
 have hx0:ρ.x (f e0.1)=some L.b:=x1 e0 m1 (by simp [MV.excl])
 generalize hb0:f e0.1=b0 at m5 hx0
 obtain⟨⟨c,t,fr,cap,p1,p2,p3,p4,p5,p6⟩,⟨p7,p8⟩,p9⟩:=m5
 have hn:n=0:=hb.size.symm
 have hne:id'≠id:=by
  rintro rfl
  rw [lkH_none hid] at hl;cases hl
 have hnone:ρ id'=none:=by
  cases hh:ρ id' with
  | none=>rfl
  | some x=>have:=h.dom id' (by rw [hh];simp);rw [hid] at this;cases this
 have hlt0:=h.xk.l _ _ hx0
 let Lb:Loc:=⟨b0,0,e0.2.length,c.size,t⟩
 let ρ2:Rho:=⟨fun i=>if i=id' then some (some Lb) else ρ i,fun c=>if c=b0 then none else ρ.x c⟩
 have f1:ρ2 id'=some (some Lb):=by simp [ρ2]
 have f2:∀ i,i≠id'→ρ2 i=ρ i:=fun i hi=>by simp [ρ2,hi]
 have f3:∀ c M,ρ2.x c=some M→c≠b0∧ρ.x c=some M:=fun c M hc=>by
  simp only [ρ2] at hc
  split at hc
  ·cases hc
  ·rename_i hh;exact⟨hh,hc⟩
 have f4:∀ c,c≠b0→ρ2.x c=ρ.x c:=fun c hc=>by simp [ρ2,hc]
 generalize hρ2:ρ2=ρ2' at f1 f2 f3 f4
 have hρ:∀ i x,ρ i=some x→ρ2' i=some x:=fun i x hx=>by
  rw [f2];exact hx
  rintro rfl;rw [hnone] at hx;cases hx
 have wo:∀ b,WrO ρ2' ((id',.cells e0.2.length (.rI k' e0.2) true) :: (id,.cells 0 (.rM k kn (.oslx k' key) es) true) :: s.heap) b→WrO ρ s.heap b∨w.heap.size≤b:=by
  rintro b (⟨M,hx⟩ | ⟨i,n',r',L',h1,h2,h3⟩)
  ·exact .inl (.inl ⟨M,(f3 b M hx).2⟩)
  rw [lkH_put] at h1
  by_cases hi:i=id'
  ·subst hi;rw [f1] at h2;cases h2;exact .inl (.inl ⟨L.b,by rw [← h3];exact hx0⟩)
  ·rw [if_neg hi,lkH_put] at h1;rw [f2 _ hi] at h2
   by_cases hi2:i=id
   ·subst hi2;exact .inl (.inr ⟨i,n,_,L',hl,h2,h3⟩)
   ·rw [if_neg hi2] at h1;exact .inl (.inr ⟨i,n',r',L',h1,h2,h3⟩)
 have hS:=h.step (H':=(id',.cells e0.2.length (.rI k' e0.2) true) :: (id,.cells 0 (.rM k kn (.oslx k' key) es) true) :: s.heap) (ρ':=ρ2') (w':=w) (fun _ _ _=>rfl) wo hρ (Nat.le_refl _) (WSame.refl _)
  (fun i n1 r1 b hl1=>by
   rw [lkH_put] at hl1
   by_cases hi:i=id'
   ·subst hi
    rw [if_pos rfl] at hl1;cases hl1
    refine⟨fun _=>trivial,rfl,.inr ⟨Lb,f1,rfl,fun q hq=>⟨_,(p9 q hq).1,.int _ _ (p9 q hq).2⟩,fun _ _=>⟨c,t,fr,p1,⟨rfl,p2⟩,⟨⟨rfl,rfl⟩,by simp only [Lb];omega⟩,p6⟩,hlt0⟩,fun _ _ _ _ e=>(by cases e),fun t e=>(by cases e)⟩
   ·rw [if_neg hi,lkH_put] at hl1
    by_cases hi2:i=id
    ·subst hi2
     rw [if_pos rfl] at hl1;cases hl1
     refine⟨(fun hm=>by cases hm),rfl,.inr ⟨L,by rw [f2 _ hi];exact hL,?_,(fun q hq=>by omega),(fun _ hm=>by cases hm),h.loc_lt hl hL⟩,fun k1 kn1 v1 es1 e=>?_,fun t e=>(by cases e)⟩
     ·rcases hb.lies with ⟨h1,_⟩ | ⟨L',h1,h2,_⟩
      ·rw [h1] at hL;cases hL
      ·rw [h1] at hL;cases hL;rw [h2,hn]
     ·cases e
      obtain⟨ms1,cl1,y1,y2⟩:=hM.ex
      refine⟨L,by rw [f2 _ hi];exact hL,⟨⟨ms1,cl1,y1,y2.chg fun xs u=>.undef u⟩,hM.keys,hM.nd,hM.bo,fun k2 hk2=>?_⟩⟩
      cases hk2
      have ne:∀ e∈es,some key≠some e.1→f e.1≠b0:=fun e he hx hh=>hx (by rw [x2 e he e0 m1 (by simp [MV.excl]) (by simp [MV.excl]) (hh.trans hb0.symm),m2])
      refine⟨f,fun e he hx=>?_,fun e he e' he' _ _ hh=>x2 e he e' he' (by simp [MV.excl]) (by simp [MV.excl]) hh,fun ms2 cl2 hh=>(x3 ms2 cl2 hh).mono fun e he u hu hx=>hu (by simp [MV.excl])⟩
      rw [f4 _ (ne e he hx)];exact x1 e he (by simp [MV.excl])
    ·rw [if_neg hi2] at hl1
     refine(h.bl i n1 r1 b hl1).keep' (fun _ _ _=>rfl) wo hρ (Nat.le_refl _) (fun _ _ _=>rfl) fun L2 k2 kn2 v2 es2 hL2 hr hlt2 hh=>hh.mono rfl fun q hq=>⟨rfl,f4 q fun e=>?_⟩
     subst e
     rw [hx0] at hq
     have:L.b=L2.b:=by injection hq
     exact hi2 (h.sep id i n _ n1 r1 b L L2 hl hl1 hL hL2 this).symm)
  (fun i i' n1 r1 n2 r2 b2 L1 L2 h1 h2 h3 h4 h5=>by
   rw [lkH_put] at h1 h2
   have old:∀ q nq rq bq Lq,(if q=id' then Blk.cells e0.2.length (.rI k' e0.2) true else lkH q ((id,.cells 0 (.rM k kn (.oslx k' key) es) true) :: s.heap))=.cells nq rq bq→ρ2' q=some (some Lq)→q≠id' → ∃ nq' rq' bq',lkH q s.heap=.cells nq' rq' bq'∧(bq=true→bq'=true)∧ρ q=some (some Lq):=fun q nq rq bq Lq q1 q2 q3=>by
    rw [if_neg q3,lkH_put] at q1;rw [f2 _ q3] at q2
    by_cases hi2:q=id
    ·subst hi2;exact⟨n,_,true,hl,fun _=>rfl,q2⟩
    ·rw [if_neg hi2] at q1;exact⟨_,_,_,q1,(fun h=>h),q2⟩
   by_cases hi:i=id' <;> by_cases hi':i'=id'
   ·rw [hi,hi']
   ·subst hi
    rw [f1] at h3;cases h3
    obtain⟨nq,rq,bq,q1,_,q2⟩:=old i' _ _ _ _ h2 h4 hi'
    exact absurd h5.symm (h.xk.s b0 L.b i' nq rq bq L2 hx0 q1 q2)
   ·subst hi'
    rw [f1] at h4;cases h4
    obtain⟨nq,rq,bq,q1,_,q2⟩:=old i _ _ _ _ h1 h3 hi
    exact absurd h5 (h.xk.s b0 L.b i nq rq bq L1 hx0 q1 q2)
   ·obtain⟨nq,rq,bq,q1,q2,q3⟩:=old i _ _ _ _ h1 h3 hi
    obtain⟨nq',rq',bq',q1',_,q3'⟩:=old i' _ _ _ _ h2 h4 hi'
    rw [q2 rfl] at q1
    exact h.sep i i' _ _ _ _ _ L1 L2 q1 q1' q3 q3' h5)
  (fun i hi=>by
   rw [hasKey_put,hasKey_put]
   by_cases he:i=id'
   ·simp [he]
   ·rw [f2 _ he] at hi;simp [h.dom i hi])
  (fun i n1 r1 b1 L1 h1 h2=>by
   rw [lkH_put] at h1
   by_cases hi:i=id'
   ·subst hi;rw [f1] at h2;cases h2;exact h.xk.u b0 L.b hx0
   ·rw [if_neg hi,lkH_put] at h1;rw [f2 _ hi] at h2
    by_cases hi2:i=id
    ·subst hi2;exact h.su i n _ true L1 hl h2
    ·rw [if_neg hi2] at h1;exact h.su i n1 r1 b1 L1 h1 h2)
  ⟨fun q M hq=>h.xk.l q M (f3 q M hq).2,fun q M i n1 r1 c1 L1 hq h1 h2=>by
   obtain⟨hq0,hq1⟩:=f3 q M hq
   rw [lkH_put] at h1
   by_cases hi:i=id'
   ·subst hi;rw [f1] at h2;cases h2;exact hq0.symm
   ·rw [if_neg hi,lkH_put] at h1;rw [f2 _ hi] at h2
    by_cases hi2:i=id
    ·subst hi2;exact h.xk.s q M i n _ true L1 hq1 hl h2
    ·rw [if_neg hi2] at h1;exact h.xk.s q M i n1 r1 c1 L1 hq1 h1 h2,fun q M hq=>h.xk.u q M (f3 q M hq).2⟩
 refine⟨ρ2',hS,?_⟩
 rw [p3]
 exact .own id' 0 1 e0.2.length cap Lb f1 (by simp [Lb]) rfl p4 (by simp only [Lb];omega) (by decide) p8
theorem Sim.takeNil(h:Sim U V.G w0 W0 ρ s a w){id id' n:Nat}{k:IntKind}{kn:Nat}{k':IntKind}{es:List (Li×Li)}{L:Loc}{key:List Int}
  (hl:lkH id s.heap=.cells n (.rM k kn (.osl k') es) true) (hL:ρ id=some (some L)) (hid:hasKey id' s.heap=false) :
  ∃ ρ2,Sim U V.G w0 W0 ρ2 ((s.setH id (.cells 0 (.rM k kn (.oslx k' key) es) true)).setH id' (.cells 0 (.rI k' []) true)) a w ∧
   Rep w (Wr U ρ2 ((s.setH id (.cells 0 (.rM k kn (.oslx k' key) es) true)).setH id' (.cells 0 (.rI k' []) true)).heap) ρ2 (.own id' 0 1) (.slice none 0 0):=by
 have hb:=h.bl id n _ true hl
 obtain⟨L',e1,hM⟩:=hb.map k kn (.osl k') es rfl
 rw [hL] at e1;cases e1
 have hn:n=0:=hb.size.symm
 have hne:id'≠id:=by
  rintro rfl
  rw [lkH_none hid] at hl;cases hl
 have wo:∀ b,WrO ρ ((id,.cells 0 (.rM k kn (.oslx k' key) es) true) :: s.heap) b→WrO ρ s.heap b∨w.heap.size≤b:=by
  rintro b (hx | ⟨i,n',r',L',h1,h2,h3⟩)
  ·exact .inl (.inl hx)
  rw [lkH_put] at h1
  by_cases hi2:i=id
  ·subst hi2;exact .inl (.inr ⟨i,n,_,L',hl,h2,h3⟩)
  ·rw [if_neg hi2] at h1;exact .inl (.inr ⟨i,n',r',L',h1,h2,h3⟩)
 have hS:=h.step (H':=(id,.cells 0 (.rM k kn (.oslx k' key) es) true) :: s.heap) (ρ':=ρ) (w':=w) (fun _ _ _=>rfl) wo (fun _ _ h=>h) (Nat.le_refl _) (WSame.refl _)
  (fun i n1 r1 b hl1=>by
   rw [lkH_put] at hl1
   by_cases hi2:i=id
   ·subst hi2
    rw [if_pos rfl] at hl1;cases hl1
    refine⟨(fun hm=>by cases hm),rfl,.inr ⟨L,hL,?_,(fun q hq=>by omega),(fun _ hm=>by cases hm),h.loc_lt hl hL⟩,fun k1 kn1 v1 es1 e=>?_,fun t e=>(by cases e)⟩
    ·rcases hb.lies with ⟨h1,_⟩ | ⟨L',h1,h2,_⟩
     ·rw [h1] at hL;cases hL
     ·rw [h1] at hL;cases hL;rw [h2,hn]
    ·cases e
     obtain⟨ms1,cl1,y1,y2⟩:=hM.ex
     refine⟨L,hL,⟨⟨ms1,cl1,y1,y2.chg fun xs u=>.undef u⟩,hM.keys,hM.nd,hM.bo,fun k2 hk2=>?_⟩⟩
     cases hk2
     obtain⟨f,x1,x2,x3⟩:=hM.hid k' rfl
     exact⟨f,fun e he _=>x1 e he (by simp [MV.excl]),fun e he e' he' _ _ hh=>x2 e he e' he' (by simp [MV.excl]) (by simp [MV.excl]) hh,fun ms2 cl2 hh=>(x3 ms2 cl2 hh).mono fun e he u hu hx=>hu (by simp [MV.excl])⟩
   ·rw [if_neg hi2] at hl1
    exact(h.bl i n1 r1 b hl1).keep (fun _ _ _=>rfl) wo (fun _ _ h=>h) (Nat.le_refl _) (fun _ _ _=>rfl) (fun _ _ _ _=>⟨rfl,rfl⟩))
  (fun i i' n1 r1 n2 r2 b2 L1 L2 h1 h2 h3 h4 h5=>by
   rw [lkH_put] at h1 h2
   have old:∀ q nq rq bq,(if q=id then Blk.cells 0 (.rM k kn (.oslx k' key) es) true else lkH q s.heap)=.cells nq rq bq → ∃ nq' rq' bq',lkH q s.heap=.cells nq' rq' bq'∧(bq=true→bq'=true):=fun q nq rq bq q1=>by
    by_cases hi2:q=id
    ·subst hi2;exact⟨n,_,true,hl,fun _=>rfl⟩
    ·rw [if_neg hi2] at q1;exact⟨_,_,_,q1,fun h=>h⟩
   obtain⟨nq,rq,bq,q1,q2⟩:=old i _ _ _ h1
   obtain⟨nq',rq',bq',q1',_⟩:=old i' _ _ _ h2
   rw [q2 rfl] at q1
   exact h.sep i i' _ _ _ _ _ L1 L2 q1 q1' h3 h4 h5)
  (fun i hi=>by
   rw [hasKey_put];simp [h.dom i hi])
  (fun i n1 r1 b1 L1 h1 h2=>by
   rw [lkH_put] at h1
   by_cases hi2:i=id
   ·subst hi2;exact h.su i n _ true L1 hl h2
   ·rw [if_neg hi2] at h1;exact h.su i n1 r1 b1 L1 h1 h2)
  (h.xk.step (Nat.le_refl _) (fun _ _ h=>h) fun i n1 r1 c1 L1 h1 h2=>by
   rw [lkH_put] at h1
   by_cases hi2:i=id
   ·subst hi2;exact .inl ⟨i,n,_,true,L1,hl,h2,rfl⟩
   ·rw [if_neg hi2] at h1;exact .inl ⟨i,n1,r1,c1,L1,h1,h2,rfl⟩)
 obtain⟨q1,q2⟩:=Sim.newEmpty (s:=s.setH id (.cells 0 (.rM k kn (.oslx k' key) es) true)) (id:=id') (r:=.rI k' []) hS (by
  simp only [St.setH];rw [hasKey_put,hid];simp [hne]) trivial rfl
 exact⟨_,q1,.own0 id' 1 none (Rho.set_same _ _ _)⟩
theorem Sim.fixM(h:Sim U V.G w0 W0 ρ s a w){id n:Nat}{k:IntKind}{kn:Nat}{k':IntKind}{es:List (Li×Li)}
  (hl:lkH id s.heap=.cells n (.rM k kn (.osl k') es) true):∃ ρ2,Sim U V.G w0 W0 ρ2 (s.setH id (.cells n (.rM k kn (.sl k') es) true)) a w:=by
 have hb:=h.bl id n _ true hl
 obtain⟨L,hL,hM⟩:=hb.map k kn (.osl k') es rfl
 obtain⟨f,x1,x2,x3⟩:=hM.hid k' rfl
 let ρ2:Rho:=⟨ρ.f,fun c=>if ρ.x c=some L.b then none else ρ.x c⟩
 have f3:∀ c M,ρ2.x c=some M→ρ.x c=some M:=fun c M hc=>by
  simp only [ρ2] at hc
  split at hc
  ·cases hc
  ·exact hc
 have f4:∀ c,ρ.x c≠some L.b→ρ2.x c=ρ.x c:=fun c hc=>by simp [ρ2,hc]
 have f5:∀ c,ρ.x c=some L.b→ρ2.x c=none:=fun c hc=>by simp [ρ2,hc]
 have f2:∀ i,ρ2 i=ρ i:=fun i=>rfl
 generalize hρ2:ρ2=ρ2' at f2 f3 f4 f5
 have hρ:∀ i x,ρ i=some x→ρ2' i=some x:=fun i x hx=>by rw [f2];exact hx
 have wo:∀ b,WrO ρ2' ((id,.cells n (.rM k kn (.sl k') es) true) :: s.heap) b→WrO ρ s.heap b∨w.heap.size≤b:=by
  rintro b (⟨M,hx⟩ | ⟨i,n',r',L',h1,h2,h3⟩)
  ·exact .inl (.inl ⟨M,f3 b M hx⟩)
  rw [lkH_put] at h1;rw [f2] at h2
  by_cases hi2:i=id
  ·subst hi2;exact .inl (.inr ⟨i,n,_,L',hl,h2,h3⟩)
  ·rw [if_neg hi2] at h1;exact .inl (.inr ⟨i,n',r',L',h1,h2,h3⟩)
 refine⟨ρ2',h.step (H':=(id,.cells n (.rM k kn (.sl k') es) true) :: s.heap) (ρ':=ρ2') (w':=w) (fun _ _ _=>rfl) wo hρ (Nat.le_refl _) (WSame.refl _) ?_ ?_ ?_ ?_ ⟨?_,?_,?_⟩⟩
 ·intro i n1 r1 b hl1
  rw [lkH_put] at hl1
  by_cases hi2:i=id
  ·subst hi2
   rw [if_pos rfl] at hl1;cases hl1
   refine⟨(fun hm=>by cases hm),hb.size,?_,fun k1 kn1 v1 es1 e=>?_,fun t e=>(by cases e)⟩
   ·rw [f2]
    have hn:n=0:=hb.size.symm
    rcases hb.lies with h1 | ⟨L',h1,h2,_,_,h5⟩
    ·exact .inl h1
    ·exact .inr ⟨L',h1,h2,(fun q hq=>by omega),(fun _ hm=>by cases hm),h5⟩
   ·cases e
    obtain⟨ms1,cl1,y1,y2⟩:=hM.ex
    refine⟨L,by rw [f2];exact hL,⟨⟨ms1,cl1,y1,y2.both (v':=.sl k') (fun e he u hu=>?_) (x3 ms1 cl1 y1)⟩,hM.keys,hM.nd,hM.bo,Hid.no rfl⟩⟩
    obtain⟨⟨c,t,fr,cap,p1,p2,p3,p4,p5,p6⟩,⟨p7,p8⟩,p9⟩:=hu (by simp [MV.excl])
    have hx:=x1 e he (by simp [MV.excl])
    rw [p3]
    refine .vs (.rI k' e.2) 0 1 e.2.length cap (f e.1) 0 (fun j=>.int k' (e.2.getD j 0)) rfl (by decide) (by simp [AV.size]) p7 (.inl rfl) p4 p8 ?_ (fun j hj=>(p9 j (by omega)).1) (fun j hj=>.int _ _ (p9 j (by omega)).2)
    rintro(hU | ⟨M,hx'⟩ | ⟨i',n',r',L',h1,h2,h3⟩)
    ·exact h.xk.u _ _ hx (U.sub _ hU)
    ·rw [f5 _ hx] at hx';cases hx'
    ·rw [lkH_put] at h1;rw [f2] at h2
     by_cases hi3:i'=i
     ·subst hi3;exact h.xk.s _ _ i' n _ true L' hx hl h2 h3
     ·rw [if_neg hi3] at h1;exact h.xk.s _ _ i' n' r' true L' hx h1 h2 h3
  ·rw [if_neg hi2] at hl1
   refine(h.bl i n1 r1 b hl1).keep' (fun _ _ _=>rfl) wo hρ (Nat.le_refl _) (fun _ _ _=>rfl) fun L2 k2 kn2 v2 es2 hL2 hr hlt2 hh=>hh.mono rfl fun q hq=>⟨rfl,f4 q fun e=>?_⟩
   rw [e] at hq
   have:L.b=L2.b:=by injection hq
   exact hi2 (h.sep id i n _ n1 r1 b L L2 hl hl1 hL hL2 this).symm
 ·intro i i' n1 r1 n2 r2 b2 L1 L2 h1 h2 h3 h4 h5
  rw [lkH_put] at h1 h2
  rw [f2] at h3 h4
  have old:∀ q nq rq bq,(if q=id then Blk.cells n (.rM k kn (.sl k') es) true else lkH q s.heap)=.cells nq rq bq → ∃ nq' rq' bq',lkH q s.heap=.cells nq' rq' bq'∧(bq=true→bq'=true):=fun q nq rq bq q1=>by
   by_cases hi2:q=id
   ·subst hi2;exact⟨n,_,true,hl,fun _=>rfl⟩
   ·rw [if_neg hi2] at q1;exact⟨_,_,_,q1,fun h=>h⟩
  obtain⟨nq,rq,bq,q1,q2⟩:=old i _ _ _ h1
  obtain⟨nq',rq',bq',q1',_⟩:=old i' _ _ _ h2
  rw [q2 rfl] at q1
  exact h.sep i i' _ _ _ _ _ L1 L2 q1 q1' h3 h4 h5
 ·intro i hi
  rw [hasKey_put];rw [f2] at hi;simp [h.dom i hi]
 ·intro i n1 r1 b1 L1 h1 h2
  rw [lkH_put] at h1;rw [f2] at h2
  by_cases hi2:i=id
  ·subst hi2;exact h.su i n _ true L1 hl h2
  ·rw [if_neg hi2] at h1;exact h.su i n1 r1 b1 L1 h1 h2
 ·exact fun q M hq=>h.xk.l q M (f3 q M hq)
 ·intro q M i n1 r1 c1 L1 hq h1 h2
  rw [lkH_put] at h1;rw [f2] at h2
  by_cases hi2:i=id
  ·subst hi2;exact h.xk.s q M i n _ true L1 (f3 q M hq) hl h2
  ·rw [if_neg hi2] at h1;exact h.xk.s q M i n1 r1 c1 L1 (f3 q M hq) h1 h2
 ·exact fun q M hq=>h.xk.u q M (f3 q M hq)
theorem alook_ok(h:TysOk P V.T)(hs:Sim U V.G w0 W0 ρ s a w){t:Nat}{m x:Operand}{ok:Bool}(ho:o.op=.lookup t m x ok){i id n:Nat}{k:IntKind}{kn:Nat}{v:MV}{es:List (Li×Li)}{b:Bool}
  (hm:Rep w (Wr U ρ s.heap) ρ (.mp id) (a.eval m)) (hl:lkH id s.heap=.cells n (.rM k kn v es) b) (ha:alook V t i o.dst ok id k kn v es b (ev V s x) s=some (true,av,s')):OpOk U P V w0 W0 o a w av s':=by
 unfold alook at ha
 split at ha <;> try contradiction
 rename_i k'
 split at ha <;> try contradiction
 rename_i key hty hkey
 obtain⟨kt,et,hd,hK,hE⟩:=isMapTy_ok hty
 obtain⟨e',he,_⟩:=hE
 obtain⟨hu,hko⟩:=mkey_ok (hs.ev x) hkey
 obtain⟨L,ms,clock,e1,hL,g1,g2,g3,g4,g5⟩:=map_at hs hm hl
 have hf:=findKey_run (P:=P) h hK hko (keysAre_of g2 g3) w
 have hc:=checkKey_run (P:=P) h hK hko ms.isEmpty w
 have hz:=zslice_run (P:=P) h he w
 obtain⟨L',e2,hM⟩:=(hs.bl id n _ _ hl).map k kn _ es rfl
 rw [hL] at e2;cases e2
 have run:∀ u,(fnd ms.toList es key 0=none∧u=.slice none 0 0 ∨ ∃ j,fnd ms.toList es key 0=some (j,u))→(Instr.lookup t (a.eval m) (a.eval x) false).run P w=.ok u w:=fun u hu'=>by
  rcases fnd_spec (v:=.osl k') [] key 0 g2 with ⟨q1,q2,q3⟩ | ⟨q1,j,u',q2,q3⟩
  ·rw [q2] at hf hu'
   rcases hu' with ⟨_,rfl⟩ | ⟨j,hj⟩
   ·simp [Instr.lookup,run_underlying' ((h t).map kt et hd),e1,MapKept.run_getObj_map g1,hu,hc,hf,hz,q1,Result.andThen]
   ·cases hj
  ·rw [q2] at hf hu'
   rcases hu' with ⟨hn,_⟩ | ⟨j',hj⟩
   ·cases hn
   ·injection hj with hj;injection hj with _ hj;subst hj
    simp [Instr.lookup,run_underlying' ((h t).map kt et hd),e1,MapKept.run_getObj_map g1,hu,hc,hf,q1,Result.andThen]
 split at ha
 ·simp only [Option.some.injEq,Prod.mk.injEq,true_and] at ha
  obtain⟨rfl,rfl⟩:=ha
  rcases fnd_spec (v:=.osl k') [] key 0 g2 with ⟨q1,q2,q3⟩ | ⟨q1,j,u,q2,q3⟩
  ·rw [q3]
   exact ok_value (v:=.slice none 0 0) (by simp only [execOp,ho];exact run_v (run _ (.inl ⟨q2,rfl⟩))) hs (.lv 0 0 none (by decide))
  ·obtain⟨f,x1,x2,x3⟩:=hM.hid k' rfl
   obtain⟨e0,m1,m2,m3,m4⟩:=fnd_E [] key 0 (x3 ms clock g1) j u q2
   obtain⟨⟨c,t',fr,cap,p1,p2,p3,p4,p5,p6⟩,⟨p7,p8⟩,p9⟩:=m4 (by simp [MV.excl])
   rw [m3]
   refine ok_value (v:=u) (by simp only [execOp,ho];exact run_v (run u (.inr ⟨j,q2⟩))) hs ?_
   rw [p3]
   exact .lv _ _ _ p8
 ·split at ha <;> try contradiction
  rename_i hk
  simp only [Option.some.injEq,Prod.mk.injEq,true_and] at ha
  obtain⟨rfl,rfl⟩:=ha
  rcases fnd_spec (v:=.osl k') [] key 0 g2 with ⟨q1,q2,q3⟩ | ⟨q1,j,u,q2,q3⟩
  ·rw [q3]
   obtain⟨ρ2,r1,r2⟩:=hs.takeNil (key:=key) hl hL hk
   exact ok_value (v:=.slice none 0 0) (by simp only [execOp,ho];exact run_v (run _ (.inl ⟨q2,rfl⟩))) r1 r2
  ·obtain⟨ρ2,r1,r2⟩:=hs.takeOut hl hL hk g1 q2
   exact ok_value (v:=u) (by simp only [execOp,ho];exact run_v (run u (.inr ⟨j,q2⟩))) r1 r2
theorem Sim.hide(h:Sim U V.G w0 W0 ρ s a w){id n M:Nat}{r:AV}{L:Loc}(hl:lkH id s.heap=.cells n r true)(hL:ρ id=some (some L)):
  Sim U V.G w0 W0 ⟨ρ.f,fun c=>if c=L.b then some M else ρ.x c⟩ (s.setH id .gone) a w:=by
 have hnx:ρ.x L.b=none:=by
  cases hh:ρ.x L.b with
  | none=>rfl
  | some M'=>exact absurd rfl (h.xk.s _ _ id n r true L hh hl hL)
 have wo:∀ b,WrO ⟨ρ.f,fun c=>if c=L.b then some M else ρ.x c⟩ ((id,.gone) :: s.heap) b→WrO ρ s.heap b∨w.heap.size≤b:=by
  rintro b (⟨M',hx⟩ | ⟨i,n',r',L',h1,h2,h3⟩)
  ·simp only at hx
   split at hx
   ·rename_i e;exact .inl (.inr ⟨id,n,r,L,hl,hL,e.symm⟩)
   ·exact .inl (.inl ⟨M',hx⟩)
  rw [lkH_put] at h1
  by_cases hi2:i=id
  ·rw [if_pos hi2] at h1;cases h1
  ·rw [if_neg hi2] at h1;exact .inl (.inr ⟨i,n',r',L',h1,h2,h3⟩)
 refine h.step (H':=(id,.gone) :: s.heap) (ρ':=⟨ρ.f,fun c=>if c=L.b then some M else ρ.x c⟩) (w':=w) (fun _ _ _=>rfl) wo (fun _ _ h=>h) (Nat.le_refl _) (WSame.refl _) ?_ ?_ ?_ ?_ ⟨?_,?_,?_⟩
 ·intro i n1 r1 b hl1
  rw [lkH_put] at hl1
  by_cases hi2:i=id
  ·rw [if_pos hi2] at hl1;cases hl1
  ·rw [if_neg hi2] at hl1
   refine(h.bl i n1 r1 b hl1).keep (fun _ _ _=>rfl) wo (fun _ _ h=>h) (Nat.le_refl _) (fun _ _ _=>rfl) fun L2 hL2 c hc=>⟨rfl,?_⟩
   have:c≠L.b:=by rintro rfl;rw [hnx] at hc;cases hc
   simp [this]
 ·intro i i' n1 r1 n2 r2 b2 L1 L2 h1 h2 h3 h4 h5
  rw [lkH_put] at h1 h2
  split at h1
  ·cases h1
  split at h2
  ·cases h2
  exact h.sep i i' _ _ _ _ _ L1 L2 h1 h2 h3 h4 h5
 ·intro i hi
  rw [hasKey_put];simp [h.dom i hi]
 ·intro i n1 r1 b1 L1 h1 h2
  rw [lkH_put] at h1
  split at h1
  ·cases h1
  exact h.su i n1 r1 b1 L1 h1 h2
 ·intro q M' hq
  simp only at hq
  split at hq
  ·rename_i e;rw [e];exact h.loc_lt hl hL
  ·exact h.xk.l q M' hq
 ·intro q M' i n1 r1 c1 L1 hq h1 h2
  rw [lkH_put] at h1
  split at h1
  ·cases h1
  rename_i hi
  simp only at hq
  split at hq
  ·rename_i e
   rw [e]
   intro hh
   exact hi (h.sep id i n r n1 r1 c1 L L1 hl h1 hL h2 hh.symm).symm
  ·exact h.xk.s q M' i n1 r1 c1 L1 hq h1 h2
 ·intro q M' hq
  simp only at hq
  split at hq
  ·rename_i e;rw [e];exact h.su id n r true L hl hL
  ·exact h.xk.u q M' hq
theorem aputO_ok(h:TysOk P V.T)(hs:Sim U V.G w0 W0 ρ s a w){t:Nat}{m x y:Operand}(ho:o.op=.mapUpdate t m x y){id n:Nat}{k:IntKind}{kn:Nat}{v:MV}{es:List (Li×Li)}
  (hm:Rep w (Wr U ρ s.heap) ρ (.mp id) (a.eval m)) (hl:lkH id s.heap=.cells n (.rM k kn v es) true) (ha:aputO V t id k kn v es (ev V s x) (ev V s y) s=some (true,av,s')):OpOk U P V w0 W0 o a w av s':=by
 have hy:=hs.ev y
 unfold aputO at ha
 split at ha <;> try contradiction
 rename_i k' key0 idy hyy
 rw [hyy] at hy
 split at ha <;> try contradiction
 rename_i key ny k'' xs hty hkey hly hidy
 split at ha <;> try contradiction
 rename_i hkk
 rw [decide_eq_true_eq] at hkk;subst hkk
 simp only [Option.some.injEq,Prod.mk.injEq,Bool.and_eq_true,beq_iff_eq,decide_eq_true_eq] at ha
 obtain⟨⟨rfl,hlen⟩,rfl,rfl⟩:=ha
 have hne:id≠idy:=by rintro rfl;simp at hidy
 obtain⟨kt,et,hd,hK,hE⟩:=isMapTy_ok hty
 obtain⟨hu,hko⟩:=mkey_ok (hs.ev x) hkey
 obtain⟨L,ms,clock,e1,hL,g1,g2,g3,g4,g5⟩:=map_at hs hm hl
 have hf:=findKey_run (P:=P) h hK hko (keysAre_of g2 g3) w
 have hc:=checkKey_run (P:=P) h hK hko false w
 obtain⟨L',e2,hM⟩:=(hs.bl id n _ _ hl).map k kn _ es rfl
 rw [hL] at e2;cases e2
 obtain⟨f,x1,x2,x3⟩:=hM.hid k' rfl
 have hby:=hs.bl idy ny _ _ hly
 have hsy:xs.length=ny:=hby.size
 generalize hvy:a.eval y=vy at hy
 obtain⟨Ly,cap,y1,y2,y3,y4,y5,y6⟩:∃ Ly cap,ρ idy=some (some Ly)∧vy=.slice (some ⟨Ly.b,Ly.base,none⟩) xs.length cap∧xs.length≤cap∧Ly.base+cap≤Ly.S∧Ly.n=ny∧xs.length < 4611686018427387904:=by
  cases hy with
  | own0 _ _ _ h0=>
   rcases hby.lies with ⟨_,h2⟩ | ⟨Lq,h1,_⟩
   ·omega
   ·rw [h0] at h1;cases h1
  | own _ _ _ l cap Ly h1 h2 h3 h4 h5 h6 h7=>
   rcases hby.lies with ⟨h8,_⟩ | ⟨Lq,h8,h9,_⟩
   ·rw [h1] at h8;cases h8
   ·rw [h1] at h8;cases h8
    have:l=xs.length:=by omega
    subst this
    exact⟨Ly,cap,h1,rfl,h4,by omega,h9,h7⟩
 obtain⟨y7,y8,y9⟩:(∀ q,q < ny → ∃ v,w.cell? ⟨Ly.b,Ly.base+q,none⟩=some v∧Rep w (Wr U ρ s.heap) ρ ((AV.rI k' xs).cell q) v)∧Mine w Ly∧Ly.b < w.heap.size:=by
  rcases hby.lies with ⟨h8,_⟩ | ⟨Lq,h8,h9,q1,q2,q3⟩
  ·rw [y1] at h8;cases h8
  ·rw [y1] at h8;cases h8;exact⟨q1,q2 rfl rfl,q3⟩
 obtain⟨c,tt,fr,z1,⟨z2,z2'⟩,⟨⟨z3,z4⟩,z5⟩,z6⟩:=y8
 have hok:HidOk w Ly.b k' xs vy:=by
  refine⟨⟨c,tt,fr,cap,z1,z2',by rw [y2,z3],y3,by omega,fun j hj=>z6 j (by omega)⟩,⟨hlen,y6⟩,fun j hj=>?_⟩
  obtain⟨v,q1,q2⟩:=y7 j (by omega)
  cases q2 with | int _ _ hh=>
  rw [z3] at q1
  exact⟨q1,hh⟩
 have hneb:Ly.b≠L.b:=fun e=>hne (hs.sep idy id _ _ _ _ _ Ly L hly hl y1 hL e).symm
 have hnx:ρ.x Ly.b=none:=by
  cases hh:ρ.x Ly.b with
  | none=>rfl
  | some M'=>exact absurd rfl (hs.xk.s _ _ idy ny _ true Ly hh hly y1)
 have h1:=hs.hide (M:=L.b) hly y1
 have hl1:lkH id (s.setH idy .gone).heap=.cells n (.rM k kn (.oslx k' key0) es) true:=by
  simp only [St.setH];rw [lkH_put,if_neg hne];exact hl
 have hhid:∀ (ms':Array MapEntry) (clock':Nat),EEnts (fun key xs' u=>key=key0∧xs'=xs∧u=vy∨key≠key0∧HidOk w (f key) k' xs' u) ms'.toList (mput es key0 xs) → ∀ w':World,w'.heap[L.b]?=some (.map ms' clock')→(∀ b,b≠L.b→w'.heap[b]?=w.heap[b]?) →
   Hid w' ⟨ρ.f,fun c=>if c=Ly.b then some L.b else ρ.x c⟩ L.b (.osl k') (mput es key0 xs):=by
  intro ms' clock' hE' w' hw1 hw2 k2 hk2
  cases hk2
  have mem:∀ e∈mput es key0 xs,e.1≠key0→e∈es:=mput_mem es key0 xs
  refine⟨fun key=>if key=key0 then Ly.b else f key,fun e he _=>?_,fun e he e' he' _ _ hh=>?_,fun ms2 cl2 hms=>?_⟩
  ·by_cases hk:e.1=key0
   ·simp [hk]
   ·have hx:=x1 e (mem e he hk) (by simp only [MV.excl];intro h';injection h' with h';exact hk h'.symm)
    have:f e.1≠Ly.b:=fun h'=>by rw [h',hnx] at hx;cases hx
    simp only [if_neg hk,if_neg this];exact hx
  ·have ff:∀ e∈mput es key0 xs,e.1≠key0→f e.1≠Ly.b:=fun e he hk h'=>by
    have hx:=x1 e (mem e he hk) (by simp only [MV.excl];intro h';injection h' with h';exact hk h'.symm)
    rw [h',hnx] at hx;cases hx
   by_cases hk:e.1=key0 <;> by_cases hk':e'.1=key0
   ·rw [hk,hk']
   ·simp only [if_pos hk,if_neg hk'] at hh;exact absurd hh.symm (ff e' he' hk')
   ·simp only [if_neg hk,if_pos hk'] at hh;exact absurd hh (ff e he hk)
   ·simp only [if_neg hk,if_neg hk'] at hh
    exact x2 e (mem e he hk) e' (mem e' he' hk') (by simp only [MV.excl];intro h';injection h' with h';exact hk h'.symm) (by simp only [MV.excl];intro h';injection h' with h';exact hk' h'.symm) hh
  ·rw [hw1] at hms;cases hms
   refine hE'.mono fun e he u hu _=>?_
   rcases hu with ⟨q1,q2,q3⟩ | ⟨q1,q2⟩
   ·show HidOk w' (if e.1=key0 then Ly.b else f e.1) k' e.2 u
    rw [if_pos q1,q2,q3]
    exact hok.mono (hw2 _ hneb)
   ·show HidOk w' (if e.1=key0 then Ly.b else f e.1) k' e.2 u
    rw [if_neg q1]
    refine q2.mono (hw2 _ fun e'=>?_)
    have hx:=x1 e (mem e he q1) (by simp only [MV.excl];intro h';injection h' with h';exact q1 h'.symm)
    rw [e'] at hx
    exact hs.xk.s _ _ id n _ true L hx hl hL rfl
 have hE0:EEnts (fun key xs' u=>key≠key0→HidOk w (f key) k' xs' u) ms.toList es:=(x3 ms clock g1).mono fun e he u hu hk=>hu (by simp only [MV.excl];intro h';injection h' with h';exact hk h'.symm)
 have upd:=fnd_updE (R:=fun key xs' u=>key≠key0→HidOk w (f key) k' xs' u) (R':=fun key xs' u=>key=key0∧xs'=xs∧u=vy∨key≠key0∧HidOk w (f key) k' xs' u) key0 (fun key xs' u hk hu=>.inr ⟨hk,hu hk⟩) 0 hE0 g4
 have g2':MEnts w (Wr U ⟨ρ.f,fun c=>if c=Ly.b then some L.b else ρ.x c⟩ (s.setH idy .gone).heap) ⟨ρ.f,fun c=>if c=Ly.b then some L.b else ρ.x c⟩ k kn (.osl k') ms.toList es:=g2.chg fun xs u=>.undef u
 rcases fnd_upd key0 0 g2' with ⟨q1,q2⟩ | ⟨tt,u,mm,q1,q2,q3,q4⟩
 ·rw [q1] at hf
  have hS:=h1.rewriteM' (ms':=ms.push ⟨keyV k kn key0,a.eval y,clock⟩) (clock:=clock+1) (es':=mput es key0 xs) (v':=.osl k') hl1 hL (by rw [Array.toList_push];exact q2 xs (a.eval y) clock (.undef _)) (mput_ok g3 hko) (mput_nd g4) (born_push g5)
   (hhid _ (clock+1) (by rw [Array.toList_push];exact upd.1 q1 _ _ _ _ (.inl ⟨rfl,rfl,hvy⟩)))
  refine ok_skip ?_ hS
  simp only [execOp,ho]
  refine run_u ?_
  simp [Instr.mapUpdate,run_underlying' ((h t).map kt et hd),e1,MapKept.run_getObj_map g1,hu,hc,hf,MapKept.run_setObj_map _ g1,Result.andThen]
 ·rw [q1,Nat.zero_add] at hf
  have hS:=h1.rewriteM' (ms':=ms.modify tt fun e=>{ e with key:=keyV k kn key0,val:=a.eval y }) (clock:=clock) (es':=mput es key0 xs) (v':=.osl k') hl1 hL (by rw [Array.toList_modify];exact q4 xs (a.eval y) (.undef _)) (mput_ok g3 hko) (mput_nd g4) (born_modify g5 _ _ fun _=>rfl)
   (hhid _ clock (by rw [Array.toList_modify];exact upd.2 tt u q1 _ _ _ (.inl ⟨rfl,rfl,hvy⟩)))
  refine ok_skip ?_ hS
  simp only [execOp,ho]
  refine run_u ?_
  have hmm:ms[tt]?=some mm:=by rw [← Array.getElem?_toList];exact q2
  simp [Instr.mapUpdate,run_underlying' ((h t).map kt et hd),e1,MapKept.run_getObj_map g1,hu,hc,hf,hmm,q3,stays_run,MapKept.run_setObj_map _ g1,Result.andThen]
theorem lookup_ok(h:TysOk P V.T)(hs:Sim U V.G w0 W0 ρ s a w){t:Nat}{m x:Operand}{ok:Bool}(ho:o.op=.lookup t m x ok){i:Nat}(ha:aop V i o s=some (true,av,s')):OpOk U P V w0 W0 o a w av s':=by
 simp only [aop,ho] at ha
 have hm:=hs.ev m
 split at ha <;> try contradiction
 rename_i id hid
 rw [hid] at hm
 split at ha <;> try contradiction
 rename_i n k kn v es b hl
 split at ha
 rotate_left
 ·exact alook_ok h hs ho hm hl ha
 rename_i key hty hkey
 obtain⟨kt,et,hd,hK,hE⟩:=isMapTy_ok hty
 obtain⟨hu,hko⟩:=mkey_ok (hs.ev x) hkey
 obtain⟨L,ms,clock,e1,hL,g1,g2,g3,g4,g5⟩:=map_at hs hm hl
 obtain⟨z,z1,z2⟩:=mzero_ok (P:=P) h hE w (Wr U ρ s.heap) ρ
 have hf:=findKey_run (P:=P) h hK hko (keysAre_of g2 g3) w
 have hc:=checkKey_run (P:=P) h hK hko ms.isEmpty w
 have key1:∃ u,(Instr.lookup t (a.eval m) (a.eval x) true).run P w=.ok (.tuple #[u,.bool (mhas es key)]) w∧(Instr.lookup t (a.eval m) (a.eval x) false).run P w=.ok u w∧Rep w (Wr U ρ s.heap) ρ (mval v (mget (mzero v) es key)) u:=by
  rcases fnd_spec (mzero v) key 0 g2 with ⟨q1,q2,q3⟩ | ⟨q1,j,u,q2,q3⟩
  ·rw [q2] at hf
   refine⟨z,?_,?_,by rw [q3];exact z2⟩ <;>
    simp [Instr.lookup,run_underlying' ((h t).map kt et hd),e1,MapKept.run_getObj_map g1,hu,hc,hf,z1,q1,Result.andThen]
  ·rw [q2] at hf
   refine⟨u,?_,?_,q3⟩ <;>
    simp [Instr.lookup,run_underlying' ((h t).map kt et hd),e1,MapKept.run_getObj_map g1,hu,hc,hf,q1,Result.andThen]
 obtain⟨u,r1,r2,r3⟩:=key1
 split at ha
 ·simp only [Option.some.injEq,Prod.mk.injEq,true_and] at ha
  obtain⟨rfl,rfl⟩:=ha
  refine ok_value (v:=.tuple #[u,.bool (mhas es key)]) (by simp only [execOp,ho];exact run_v r1) hs (.tup _ _ rfl fun j hj=>?_)
  match j,hj with
  | 0,_=>exact r3
  | 1,_=>exact .bool _
 ·simp only [Option.some.injEq,Prod.mk.injEq,true_and] at ha
  obtain⟨rfl,rfl⟩:=ha
  exact ok_value (v:=u) (by simp only [execOp,ho];exact run_v r2) hs r3
theorem mapUpdate_ok(h:TysOk P V.T)(hs:Sim U V.G w0 W0 ρ s a w){t:Nat}{m x y:Operand}(ho:o.op=.mapUpdate t m x y){i:Nat}(ha:aop V i o s=some (true,av,s')):OpOk U P V w0 W0 o a w av s':=by
 simp only [aop,ho] at ha
 have hm:=hs.ev m
 split at ha <;> try contradiction
 rename_i id hid
 rw [hid] at hm
 split at ha <;> try contradiction
 rename_i n k kn v es hl
 split at ha
 rotate_left
 ·exact aputO_ok h hs ho hm hl ha
 rename_i key val hty hkey hval
 simp only [Option.some.injEq,Prod.mk.injEq,true_and] at ha
 obtain⟨rfl,rfl⟩:=ha
 obtain⟨kt,et,hd,hK,hE⟩:=isMapTy_ok hty
 obtain⟨hu,hko⟩:=mkey_ok (hs.ev x) hkey
 have hv:=minto_ok (hs.ev y) hval
 obtain⟨L,ms,clock,e1,hL,g1,g2,g3,g4,g5⟩:=map_at hs hm hl
 have hf:=findKey_run (P:=P) h hK hko (keysAre_of g2 g3) w
 have hc:=checkKey_run (P:=P) h hK hko false w
 rcases fnd_upd key 0 g2 with ⟨q1,q2⟩ | ⟨tt,u,mm,q1,q2,q3,q4⟩
 ·rw [q1] at hf
  have hS:=hs.rewriteM (ms':=ms.push ⟨keyV k kn key,a.eval y,clock⟩) (clock:=clock+1) (es':=mput es key val) hl hL (elTy_no hE) (by rw [Array.toList_push];exact q2 val (a.eval y) clock hv) (mput_ok g3 hko) (mput_nd g4) (born_push g5)
  refine ok_skip ?_ hS
  simp only [execOp,ho]
  refine run_u ?_
  simp [Instr.mapUpdate,run_underlying' ((h t).map kt et hd),e1,MapKept.run_getObj_map g1,hu,hc,hf,MapKept.run_setObj_map _ g1,Result.andThen]
 ·rw [q1,Nat.zero_add] at hf
  have hS:=hs.rewriteM (ms':=ms.modify tt fun e=>{ e with key:=keyV k kn key,val:=a.eval y }) (clock:=clock) (es':=mput es key val) hl hL (elTy_no hE) (by rw [Array.toList_modify];exact q4 val (a.eval y) hv) (mput_ok g3 hko) (mput_nd g4) (born_modify g5 _ _ fun _=>rfl)
  refine ok_skip ?_ hS
  simp only [execOp,ho]
  refine run_u ?_
  have hmm:ms[tt]?=some mm:=by rw [← Array.getElem?_toList];exact q2
  simp [Instr.mapUpdate,run_underlying' ((h t).map kt et hd),e1,MapKept.run_getObj_map g1,hu,hc,hf,hmm,q3,stays_run,MapKept.run_setObj_map _ g1,Result.andThen]
theorem mdel_none{x:List Int}{es:List (Li×Li)}(h:∀ e∈es,e.1≠x):mdel es x=es:=by
 unfold mdel
 rw [List.filter_eq_self]
 intro e he
 simp [h e he]
theorem fnd_del{W:Nat→Prop}{k:IntKind}{n:Nat}{v:MV}(x:Li):∀ {ms:List MapEntry} {es:List (Li×Li)} (i:Nat),MEnts w W ρ k n v ms es→(es.map (·.1)).Nodup →
  (fnd ms es x i=none∧MEnts w W ρ k n v ms (mdel es x)) ∨ ∃ t u,fnd ms es x i=some (i+t,u)∧MEnts w W ρ k n v (ms.eraseIdx t) (mdel es x)
 | [],[],i,_,_=>.inl ⟨rfl,trivial⟩
 | [],_ :: _,_,h,_=>h.elim
 | _ :: _,[],_,h,_=>h.elim
 | m :: ms,e :: es,i,h,hnd=>by
  rw [List.map_cons,List.nodup_cons] at hnd
  have ih:=fnd_del x (ms:=ms) (es:=es) (i+1) h.2 hnd.2
  simp only [fnd]
  cases hb:e.1==x with
  | true=>
   have he:e.1=x:=by simpa using hb
   right
   refine⟨0,m.val,rfl,?_⟩
   have e1:mdel (e :: es) x=es:=by
    have:mdel (e :: es) x=mdel es x:=by unfold mdel;rw [List.filter_cons,hb];rfl
    rw [this]
    exact mdel_none fun e' he' h'=>hnd.1 (by rw [he,← h'];exact List.mem_map_of_mem he')
   rw [e1]
   exact h.2
  | false=>
   have e1:mdel (e :: es) x=e :: mdel es x:=by unfold mdel;rw [List.filter_cons,hb];rfl
   rw [e1]
   rcases ih with ⟨g1,g2⟩ | ⟨t,u,g1,g2⟩
   ·exact .inl ⟨g1,h.1,g2⟩
   ·right
    exact⟨t+1,u,by rw [g1,show i+1+t=i+(t+1) by omega];rfl,h.1,g2⟩
theorem mdel_ok{k:IntKind}{n:Nat}{x:List Int}{es:List (Li×Li)}(h:∀ e∈es,keyOk k n e.1):∀ e∈mdel es x,keyOk k n e.1:=fun e he=>h e (List.mem_filter.1 he).1
theorem mdel_nd{x:List Int}{es:List (Li×Li)}(h:(es.map (·.1)).Nodup):((mdel es x).map (·.1)).Nodup:=h.sublist (List.filter_sublist.map _)
theorem delete_ok(h:TysOk P V.T)(hs:Sim U V.G w0 W0 ρ s a w){tys:Array Nat}{ty:Nat}{x y:AV}{u v:Value}(hx:Rep w (Wr U ρ s.heap) ρ x u)(hy:Rep w (Wr U ρ s.heap) ρ y v){i:Nat}
  (ha:abuiltin V i .delete tys.toList [x,y] s=some (true,av,s')) :
  ∃ w',(Builtin.delete_ tys ty #[u,v]).run P w=.ok (.tuple #[]) w'∧Sim U V.G w0 W0 ρ s' a w'∧av=.tup .nil:=by
 unfold abuiltin at ha
 dsimp only at ha
 split at ha <;> try contradiction
 rename_i id
 split at ha <;> try contradiction
 rename_i n k kn v0 es hl
 split at ha <;> try contradiction
 rename_i t ht
 split at ha <;> try contradiction
 rename_i key hty hkey
 simp only [Option.some.injEq,Prod.mk.injEq,true_and] at ha
 obtain⟨rfl,rfl⟩:=ha
 obtain⟨kt,et,hd,hK,hE⟩:=isMapTy_ok hty
 obtain⟨hu,hko⟩:=mkey_ok hy hkey
 obtain⟨L,ms,clock,e1,hL,g1,g2,g3,g4,g5⟩:=map_at hs hx hl
 have hf:=findKey_run (P:=P) h hK hko (keysAre_of g2 g3) w
 have hc:=checkKey_run (P:=P) h hK hko ms.isEmpty w
 have ht':tys[0]?=some t:=by simpa using ht
 rcases fnd_del key 0 g2 g4 with ⟨q1,q2⟩ | ⟨tt,uu,q1,q2⟩
 ·rw [q1] at hf
  have hS:=hs.rewriteM (ms':=ms) (clock:=clock) (es':=mdel es key) hl hL (elTy_no hE) q2 (mdel_ok g3) (mdel_nd g4) g5
  refine⟨_,?_,hS,rfl⟩
  simp [Builtin.delete_,ht',run_underlying' ((h t).map kt et hd),e1,MapKept.run_getObj_map g1,hu,hc,hf,MapKept.run_setObj_map _ g1,Result.andThen]
 ·rw [q1,Nat.zero_add] at hf
  have hS:=hs.rewriteM (ms':=ms.eraseIdxIfInBounds tt) (clock:=clock) (es':=mdel es key) hl hL (elTy_no hE) (by rw [Array.toList_eraseIdxIfInBounds];exact q2) (mdel_ok g3) (mdel_nd g4) (born_erase g5 _)
  refine⟨_,?_,hS,rfl⟩
  simp [Builtin.delete_,ht',run_underlying' ((h t).map kt et hd),e1,MapKept.run_getObj_map g1,hu,hc,hf,MapKept.run_setObj_map _ g1,Result.andThen]
end Go.Am
