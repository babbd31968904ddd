/- Part of a proof. -/
import Derived.Test.YtgdibbphgdkllaaAmOps1
import Derived.ChangeKeysEq
import Derived.Test.YtgdibbphgdkllaaAmTy
set_option linter.unusedSimpArgs false
set_option linter.unusedVariables false
section
/- Operations on strings, bools and arrays. -/
namespace Go.Am
open Go
variable {P : Program} {V : Env} {U : Oth} {w0 : World} {W0 : Nat → Prop} {o : Oper} {ρ ρ' : Rho} {s s' : St} {a : Act} {w w' : World} {av : AV}
theorem bytesOf_len(s:ByteArray):(bytesOf s).length=s.size:=by simp [bytesOf]
theorem bytesOf_mk(l:List UInt8):bytesOf ⟨l.toArray⟩=l.map fun b=>(b.toNat:Int):=by simp [bytesOf]
theorem byte_inj:∀ {x y:UInt8},((x.toNat:Int))=(y.toNat:Int)→x=y:=fun h=>UInt8.toNat_inj.1 (Int.ofNat_inj.1 h)
theorem map_inj:∀ {x y:List UInt8},(x.map fun b=>(b.toNat:Int))=(y.map fun b=>(b.toNat:Int))→x=y
 | [],[],_=>rfl
 | [],_ :: _,h=>by simp at h
 | _ :: _,[],h=>by simp at h
 | a :: x,b :: y,h=>by
  simp only [List.map_cons,List.cons.injEq] at h
  rw [byte_inj h.1,map_inj h.2]
theorem bytesOf_beq(a b:ByteArray):(bytesOf a==bytesOf b)=(a.toList==b.toList):=by
 rw [Bool.eq_iff_iff,beq_iff_eq,beq_iff_eq,ByteArray.toList_eq,ByteArray.toList_eq]
 exact⟨map_inj,fun h=>by unfold bytesOf;rw [h]⟩
theorem sless_bytes:∀ (x y:List UInt8),sless (x.map fun b=>(b.toNat:Int)) (y.map fun b=>(b.toNat:Int))=Op.bytesLess x y
 | x,[]=>by cases x <;> simp [sless,Op.bytesLess]
 | [],_ :: _=>by simp [sless,Op.bytesLess]
 | a :: x,b :: y=>by
  simp only [List.map_cons,sless,Op.bytesLess,sless_bytes x y]
  congr 1
  ·rw [Bool.eq_iff_iff,decide_eq_true_eq,decide_eq_true_eq,UInt8.lt_iff_toNat_lt];omega
  ·congr 1
   rw [Bool.eq_iff_iff,beq_iff_eq,beq_iff_eq]
   exact⟨byte_inj,fun h=>by rw [h]⟩
theorem bytesOf_append(a b:ByteArray):bytesOf (a++b)=bytesOf a++bytesOf b:=by
 simp [bytesOf]
theorem sbin_ok{op:BinOp}{t:TypeId}{x y:ByteArray}(h:sbin op (bytesOf x) (bytesOf y)=some (true,av)):
  ∃ v,(binOp op t (.string x) (.string y)).run P w=.ok v w ∧ ∀ W ρ,Rep w W ρ av v:=by
 have hl:Op.bytesLess x.toList y.toList=sless (bytesOf x) (bytesOf y):=by rw [ByteArray.toList_eq,ByteArray.toList_eq];exact(sless_bytes _ _).symm
 cases op <;> simp only [sbin,Option.some.injEq,Prod.mk.injEq,true_and,reduceCtorEq] at h
 case add=>
  obtain⟨h1,rfl⟩:=h
  rw [decide_eq_true_eq,bytesOf_len,bytesOf_len] at h1
  refine⟨.string (x++y),?_,fun W ρ=>by rw [← bytesOf_append];exact .str _ (by simpa using h1)⟩
  have:¬ ((x.size+y.size:Nat):Int) > IntKind.i64.max:=by show ¬ ((x.size+y.size:Nat):Int) > 9223372036854775807;omega
  simp only [binOp,Op.stringOp,if_neg this];rfl
 case eql=>cases h;exact⟨.bool (x.toList==y.toList),by simp [binOp,Op.stringOp],fun W ρ=>by rw [bytesOf_beq];exact .bool _⟩
 case neq=>cases h;exact⟨.bool (!(x.toList==y.toList)),by simp [binOp,Op.stringOp],fun W ρ=>by rw [bytesOf_beq];exact .bool _⟩
 case lss=>cases h;exact⟨.bool (Op.bytesLess x.toList y.toList),by simp [binOp,Op.stringOp],fun W ρ=>by rw [← hl];exact .bool _⟩
 case leq=>cases h;exact⟨.bool (Op.bytesLess x.toList y.toList || x.toList==y.toList),by simp [binOp,Op.stringOp],fun W ρ=>by rw [← hl,bytesOf_beq];exact .bool _⟩
 case gtr=>cases h;exact⟨.bool (!(Op.bytesLess x.toList y.toList || x.toList==y.toList)),by simp [binOp,Op.stringOp],fun W ρ=>by rw [← hl,bytesOf_beq];exact .bool _⟩
 case geq=>cases h;exact⟨.bool (!(Op.bytesLess x.toList y.toList)),by simp [binOp,Op.stringOp],fun W ρ=>by rw [← hl];exact .bool _⟩
theorem run_isAgg_one(h:TysOk P V.T){t:Nat}(h1:(V.T.at t).d.isAgg=false)(h2:(V.T.at t).sz=1)(w:World):(isAgg t).run P w=.ok false w:=by
 obtain⟨d,hd,g1,g2⟩:=(h t).one h1 h2
 simp only [isAgg,Sem.run_bind,run_underlying' hd,Result.andThen_ok]
 cases d <;> simp_all
theorem run_isAgg_many(h:TysOk P V.T){t:Nat}(h1:(V.T.at t).d.isAgg=true)(w:World):(isAgg t).run P w=.ok true w:=by
 cases hd:(V.T.at t).d <;> rw [hd] at h1 <;> simp [TyD.isAgg] at h1
 ·simp [isAgg,run_underlying' ((h t).arr _ _ hd)]
 ·obtain⟨a,g,_⟩:=(h t).struct _ hd
  simp [isAgg,run_underlying' g]
theorem run_eqItems_all(h:TysOk P V.T){e:Nat}{d:Nat}{xs ys:Array Value}{n:Nat}(f:Nat→Bool)(h1:(V.T.at e).d.isAgg=false)(h2:(V.T.at e).sz=1)(hx:xs.size=n)(hy:ys.size=n)
  (hf:∀ j,j < n → ∀ w,(Op.equalIn d e (xs.getD j Go.undef) (ys.getD j Go.undef)).run P w=.ok (f j) w) (w:World) :
  ∀ (is:List Nat),(∀ i∈is,i < n)→(Op.eqItems d e 1 xs ys is).run P w=.ok (is.all f) w
 | [],_=>by simp [Op.eqItems]
 | i :: is,hi=>by
  have hin:i < n:=hi i (by simp)
  have p1:(part e xs (i*1)).run P w=.ok (xs.getD i Go.undef) w:=by
   have e1:xs[i]?=some (xs.getD i Go.undef):=by rw [Array.getD_eq_getD_getElem?,Array.getElem?_eq_getElem (by omega)];rfl
   simp only [part,Sem.run_bind,run_isAgg_one h h1 h2,Result.andThen_ok,Nat.mul_one,e1];rfl
  have p2:(part e ys (i*1)).run P w=.ok (ys.getD i Go.undef) w:=by
   have e1:ys[i]?=some (ys.getD i Go.undef):=by rw [Array.getD_eq_getD_getElem?,Array.getElem?_eq_getElem (by omega)];rfl
   simp only [part,Sem.run_bind,run_isAgg_one h h1 h2,Result.andThen_ok,Nat.mul_one,e1];rfl
  simp only [Op.eqItems,Sem.run_bind,p1,p2,Result.andThen_ok,hf i hin]
  cases hfi:f i
  ·simp [hfi]
  ·simp only [Bool.not_true,Bool.false_eq_true,if_false,List.all_cons,hfi,Bool.true_and]
   exact run_eqItems_all h f h1 h2 hx hy hf w is fun j hj=>hi j (by simp [hj])
theorem beq_all(xs ys:List Int)(n:Nat)(hx:xs.length=n)(hy:ys.length=n):((List.range n).all fun j=>xs.getD j 0==ys.getD j 0)=(xs==ys):=by
 rw [Bool.eq_iff_iff,List.all_eq_true,beq_iff_eq]
 constructor
 ·intro h
  apply List.ext_getElem (by omega)
  intro i h1 h2
  have:=h i (by simp;omega)
  simpa [List.getD_eq_getElem?_getD,h1,h2] using this
 ·rintro rfl i _;simp
theorem beq_allB(xs ys:List Bool)(n:Nat)(hx:xs.length=n)(hy:ys.length=n):((List.range n).all fun j=>xs.getD j false==ys.getD j false)=(xs==ys):=by
 rw [Bool.eq_iff_iff,List.all_eq_true,beq_iff_eq]
 constructor
 ·intro h
  apply List.ext_getElem (by omega)
  intro i h1 h2
  have:=h i (by simp;omega)
  simpa [List.getD_eq_getElem?_getD,h1,h2] using this
 ·rintro rfl i _;simp
theorem eqGuard_agg(h:TysOk P V.T){op:BinOp}{t n e:Nat}{x y:Operand}{xs ys:Array Value}(ht:(V.T.at t).d=.arr n e)(he:(∃ k,(V.T.at e).d=.int k)∨(V.T.at e).d=.bool)(w:World):
  (eqGuard op t x y (.agg xs) (.agg ys)).run P w=.ok () w:=by
 have hu:=(h t).arr _ _ ht
 have hg:P.eqGuardType P.depth t=false:=by
  unfold Program.depth
  rw [show 2*(P.types.size+Made.depth)+2=(2*(P.types.size+Made.depth))+1+1 from rfl]
  simp only [Program.eqGuardType,hu]
  rcases he with ⟨k,he⟩ | he
  ·simp [(h e).int k he]
  ·simp [(h e).bool he]
 cases op <;> simp [eqGuard,program,Sem.run,hg]
theorem equalIn_int(h:TysOk P V.T){e:Nat}{l k:IntKind}(he:(V.T.at e).d=.int l)(d:Nat)(x y:Int)(w:World):(Op.equalIn (d+1) e (.int k x) (.int k y)).run P w=.ok (x==y) w:=by
 simp [Op.equalIn,run_underlying' ((h e).int l he)]
theorem equalIn_bool(h:TysOk P V.T){e:Nat}(he:(V.T.at e).d=.bool)(d:Nat)(x y:Bool)(w:World):(Op.equalIn (d+1) e (.bool x) (.bool y)).run P w=.ok (x==y) w:=by
 simp [Op.equalIn,run_underlying' ((h e).bool he)]
theorem aeq1_ok(h:TysOk P V.T){t:Nat}{x y:AV}{u v:Value}{W:Nat→Prop}{b:Bool}(hx:Rep w W ρ x u)(hy:Rep w W ρ y v)(hb:aeq1 (V.T.at t).d x y=some b):
  (Op.equalIn 9999 t u v).run P w=.ok b w∧(V.T.at t).d.isAgg=false ∧ ∀ d,P.eqGuardType (d+1) t=false:=by
 cases hd:(V.T.at t).d <;> rw [hd] at hb <;> simp only [aeq1] at hb
 case int k0=>
  have hu:=(h t).int _ hd
  split at hb <;> try contradiction
  rename_i k a k' b' e1 e2 e3
  split at hb <;> try contradiction
  rename_i hk
  rw [decide_eq_true_eq] at hk;subst hk
  injection hb with hb;subst hb
  cases hx;cases hy
  exact⟨run_equalIn_int w 9998 t _ _ _ _ hu,rfl,fun d=>by simp only [Program.eqGuardType,hu]⟩
 case str=>
  have hu:=(h t).str hd
  split at hb <;> try contradiction
  injection hb with hb;subst hb
  cases hx;cases hy
  refine⟨?_,rfl,fun d=>by simp only [Program.eqGuardType,hu]⟩
  rw [run_equalIn_string w 9998 t _ _ hu,bytesOf_beq]
 case bool=>
  have hu:=(h t).bool hd
  split at hb <;> try contradiction
  injection hb with hb;subst hb
  cases hx;cases hy
  exact⟨run_equalIn_bool w 9998 t _ _ hu,rfl,fun d=>by simp only [Program.eqGuardType,hu]⟩
 all_goals contradiction
theorem aeqS_ok (h : TysOk P V.T) {W : Nat → Prop} {cs ds : Array Value} : ∀ (a : List Field) (o : Nat) (s u : AVs) (b : Bool), (∀ f ∈ a, f.name ≠ "_") → aeqS V.T o (a.map fun f => (f.type, f.offset)) s u = some b →
  (∀ j,j < s.sizeS→Rep w W ρ (s.cellS j) (cs.getD (o+j) Go.undef))→(∀ j,j < u.sizeS→Rep w W ρ (u.cellS j) (ds.getD (o+j) Go.undef))→o+s.sizeS≤cs.size→o+u.sizeS≤ds.size →
  (Op.eqFields 9999 cs ds a).run P w = .ok b w ∧ ∀ d, (a.any fun f => f.name != "_" && P.eqGuardType (d + 1) f.type) = false
 | [],o,s,u,b,_,hb,_,_,_,_=>by
  simp only [List.map_nil] at hb
  unfold aeqS at hb
  split at hb <;> try contradiction
  injection hb with hb;subst hb
  exact⟨by simp [Op.eqFields],fun d=>rfl⟩
 | f :: a,o,s,u,b,hn,hb,h1,h2,hs,hu=>by
  simp only [List.map_cons] at hb
  unfold aeqS at hb
  split at hb <;> try contradiction
  rename_i f' fs n x s m y u' e1
  injection e1 with e1 e2
  subst e1;subst e2
  split at hb <;> try contradiction
  rename_i hc
  simp only [Bool.and_eq_true,Nat.beq_eq] at hc
  obtain⟨rfl,rfl,rfl,hsz⟩:=hc
  split at hb <;> try contradiction
  rename_i b1 b2 hb1 hb2
  injection hb with hb;subst hb
  simp only [AVs.sizeS,AV.size] at h1 h2 hs hu
  have r1:=h1 0 (by omega)
  have r2:=h2 0 (by omega)
  simp only [AVs.cellS,AV.cell,Nat.add_zero,show Nat.blt 0 1=true from rfl] at r1 r2
  obtain⟨q1,q2,q3⟩:=aeq1_ok h r1 r2 hb1
  have step:∀ (s:AVs) (x:AV) (cs:Array Value),(∀ j,j < 1+s.sizeS→Rep w W ρ ((AVs.cons 1 (.one x) s).cellS j) (cs.getD (f.offset+j) Go.undef)) → ∀ j,j < s.sizeS→Rep w W ρ (s.cellS j) (cs.getD (f.offset+1+j) Go.undef):=fun s x cs hh j hj=>by
   have:=hh (1+j) (by omega)
   simp only [AVs.cellS] at this
   rw [show Nat.blt (1+j) 1=false by rw [Bool.eq_false_iff];intro e;rw [Nat.blt_eq] at e;omega] at this
   simp only [Nat.add_sub_cancel_left] at this
   rw [show f.offset+1+j=f.offset+(1+j) by omega]
   exact this
  obtain⟨i1,i2⟩:=aeqS_ok h a (f.offset+1) s u' b2 (fun g hg=>hn g (.tail _ hg)) hb2 (step s x cs h1) (step u' y ds h2) (by omega) (by omega)
  have hne:=hn f (.head _)
  have p1:(part f.type cs f.offset).run P w=.ok (cs.getD f.offset Go.undef) w:=by
   have e1:cs[f.offset]?=some (cs.getD f.offset Go.undef):=by rw [Array.getD_eq_getD_getElem?,Array.getElem?_eq_getElem (by omega)];rfl
   simp only [part,Sem.run_bind,run_isAgg_one h q2 hsz,Result.andThen_ok,e1];rfl
  have p2:(part f.type ds f.offset).run P w=.ok (ds.getD f.offset Go.undef) w:=by
   have e1:ds[f.offset]?=some (ds.getD f.offset Go.undef):=by rw [Array.getD_eq_getD_getElem?,Array.getElem?_eq_getElem (by omega)];rfl
   simp only [part,Sem.run_bind,run_isAgg_one h q2 hsz,Result.andThen_ok,e1];rfl
  refine⟨?_,fun d=>?_⟩
  ·simp only [Op.eqFields,hne,ne_eq,not_false_eq_true,if_true,Sem.run_bind,p1,p2,q1,Result.andThen_ok]
   cases b1
   ·simp
   ·simpa using i1
  ·rw [List.any_cons,q3 d,Bool.and_false,Bool.false_or];exact i2 d
theorem run_equal_agg(h:TysOk P V.T){t n m:Nat}{x y:AV}{u v:Value}{W:Nat→Prop}{b:Bool}(hx:Rep w W ρ (.agg n x) u)(hy:Rep w W ρ (.agg m y) v)(hb:aeq V.T t n x m y=some b):
  (Op.equal t u v).run P w=.ok b w ∧ ∀ op a b,(eqGuard op t a b u v).run P w=.ok () w:=by
 cases hx with | agg _ _ cs hw1 hr1 hc1 h1=>
 cases hy with | agg _ _ ds hw2 hr2 hc2 h2=>
 unfold aeq at hb
 split at hb <;> try contradiction
 rotate_left
 ·rename_i fs hd
  split at hb <;> try contradiction
  rename_i s u
  obtain⟨a,g1,g2,g3⟩:=(h t).struct _ hd
  have gn:=(h t).names _ hd a g1
  have gf:P.fieldsOf t=a:=by simp only [Program.fieldsOf,g1]
  rw [← g2] at hb
  simp only [AV.size] at hr1 hr2
  obtain⟨e1,e2⟩:=aeqS_ok h (w:=w) (W:=W) (ρ:=ρ) (cs:=cs) (ds:=ds) a.toList 0 s u b gn hb (fun j hj=>by rw [Nat.zero_add];exact h1 j (by omega)) (fun j hj=>by rw [Nat.zero_add];exact h2 j (by omega)) (by omega) (by omega)
  refine⟨?_,fun op x y=>?_⟩
  ·have:=run_equalIn_struct (P:=P) w 9999 t cs ds (by rw [gf];exact g1) g3
   rw [gf] at this
   exact this.trans e1
  ·have hg:P.eqGuardType P.depth t=false:=by
    unfold Program.depth
    rw [show 2*(P.types.size+Made.depth)+2=(2*(P.types.size+Made.depth))+1+1 from rfl]
    simp only [Program.eqGuardType,g1]
    have:=e2 (2*(P.types.size+Made.depth))
    rw [← Array.any_toList]
    exact this
   cases op <;> simp [eqGuard,program,Sem.run,hg]
 rename_i len e hd
 split at hb <;> try contradiction
 rename_i hl
 simp only [Bool.and_eq_true,Nat.beq_eq] at hl
 obtain⟨rfl,rfl⟩:=hl
 have main:∀ (f:Nat→Bool),((∃ k,(V.T.at e).d=.int k)∨(V.T.at e).d=.bool)→(V.T.at e).sz=1 →
   (∀ j,j < m → ∀ w,(Op.equalIn 9999 e (cs.getD j Go.undef) (ds.getD j Go.undef)).run P w=.ok (f j) w)→(Op.equal t (.agg cs) (.agg ds)).run P w=.ok ((List.range m).all f) w:=by
  intro f he h0 hf
  obtain⟨i,hi,his⟩:=(h e).size (by omega)
  have hagg:(V.T.at e).d.isAgg=false:=by rcases he with ⟨k,he⟩ | he <;> rw [he] <;> rfl
  show(Op.equalIn (9999+1) t (.agg cs) (.agg ds)).run P w=_
  rw [run_equalIn_array w 9999 cs ds ((h t).arr _ _ hd) hi]
  have:P.cellsOf e=1:=by simp [Program.cellsOf,hi,his,h0]
  rw [this]
  exact run_eqItems_all h f hagg h0 hc1 hc2 hf w _ (fun i hi=>by simpa using hi)
 split at hb
 ·rename_i k k1 xs k2 ys he
  split at hb <;> try contradiction
  rename_i hk
  rw [decide_eq_true_eq] at hk;subst hk
  injection hb with hb;subst hb
  simp only [AV.size] at hr1 hr2
  refine⟨?_,fun op a b=>eqGuard_agg h hd (.inl ⟨k,he⟩) w⟩
  rw [main (fun j=>xs.getD j 0==ys.getD j 0) (.inl ⟨k,he⟩) ((h e).int1 k he) ?_,beq_all xs ys m hr1 hr2]
  intro j hj w
  have g1:=h1 j hj
  have g2:=h2 j hj
  simp only [AV.cell] at g1 g2
  generalize cs.getD j Go.undef=cj at g1 ⊢
  generalize ds.getD j Go.undef=dj at g2 ⊢
  cases g1;cases g2
  exact equalIn_int h he 9998 _ _ w
 ·rename_i xs ys he
  injection hb with hb;subst hb
  simp only [AV.size] at hr1 hr2
  refine⟨?_,fun op a b=>eqGuard_agg h hd (.inr he) w⟩
  rw [main (fun j=>xs.getD j false==ys.getD j false) (.inr he) ((h e).bool1 he) ?_,beq_allB xs ys m hr1 hr2]
  intro j hj w
  have g1:=h1 j hj
  have g2:=h2 j hj
  simp only [AV.cell] at g1 g2
  generalize cs.getD j Go.undef=cj at g1 ⊢
  generalize ds.getD j Go.undef=dj at g2 ⊢
  cases g1;cases g2
  exact equalIn_bool h he 9998 _ _ w
 ·contradiction
end Go.Am
end
section
/- Binary operations; loads and stores. -/
namespace Go.Am
open Go
variable {P : Program} {V : Env} {U : Oth} {w0 : World} {W0 : Nat → Prop} {o : Oper} {ρ ρ' : Rho} {s s' : St} {a : Act} {w w' : World} {av : AV}
theorem anil_ok(h:TysOk P V.T){t:TypeId}{x y:AV}{u v:Value}{W:Nat→Prop}{b:Bool}(hx:Rep w W ρ x u)(hy:Rep w W ρ y v)(hb:anil V.T t x y=some (true,b)):
  (∀ op ox oy,(eqGuard op t ox oy u v).run P w=.ok () w)∧(Op.equal t u v).run P w=.ok b w ∧ ∀ op,op=.eql∨op=.neq→binOp op t u v=(do let b ← Op.equal t u v;pure (.bool (cond (op matches .eql) b (!b)))):=by
 unfold anil at hb
 split at hb <;> try contradiction
 ·split at hb <;> try contradiction
  rename_i e hd
  have he:=(h t).ptr e hd
  simp only [Option.some.injEq,Prod.mk.injEq,true_and] at hb;subst hb
  cases hx with | ptr=>
  cases hy
  refine⟨fun op ox oy=>by unfold eqGuard;cases op <;> rfl,?_,fun op ho=>by rcases ho with rfl | rfl <;> rfl⟩
  have hd':∀ d:Nat,∀ a,(Op.equalIn (d+1) t (.pointer (some a)) (.pointer none)).run P w=.ok false w:=fun d a=>by simp [Op.equalIn,run_underlying' he]
  exact hd' 9999 _
 ·split at hb <;> try contradiction
  rename_i e hd
  have he:=(h t).ptr e hd
  simp only [Option.some.injEq,Prod.mk.injEq,true_and] at hb;subst hb
  cases hx;cases hy
  refine⟨fun op ox oy=>by unfold eqGuard;cases op <;> rfl,?_,fun op ho=>by rcases ho with rfl | rfl <;> rfl⟩
  have hd':∀ d:Nat,(Op.equalIn (d+1) t (.pointer none) (.pointer none)).run P w=.ok true w:=fun d=>by simp [Op.equalIn,run_underlying' he]
  exact hd' 9999
 ·split at hb <;> try contradiction
  rename_i e hd
  have he:=(h t).slice e hd
  simp only [Option.some.injEq,Prod.mk.injEq,decide_eq_true_eq] at hb
  obtain⟨hlt,rfl⟩:=hb
  cases hx with
  | own0=>omega
  | own=>
   cases hy
   refine⟨fun op ox oy=>by unfold eqGuard;cases op <;> rfl,?_,fun op ho=>by rcases ho with rfl | rfl <;> rfl⟩
   have hd':∀ d:Nat,∀ a n c,(Op.equalIn (d+1) t (.slice (some a) n c) (.slice none 0 0)).run P w=.ok false w:=fun d a n c=>by simp [Op.equalIn,run_underlying' he]
   exact hd' 9999 _ _ _
 ·split at hb <;> try contradiction
  rename_i k e hd
  have he:=(h t).map k e hd
  simp only [Option.some.injEq,Prod.mk.injEq,true_and] at hb;subst hb
  cases hx with | mp=>
  cases hy
  refine⟨fun op ox oy=>by unfold eqGuard;cases op <;> rfl,?_,fun op ho=>by rcases ho with rfl | rfl <;> rfl⟩
  have hd':∀ d:Nat,∀ b,(Op.equalIn (d+1) t (.map (some b)) (.map none)).run P w=.ok false w:=fun d b=>by simp [Op.equalIn,run_underlying' he]
  exact hd' 9999 _
theorem abin_ok(h:TysOk P V.T){op:BinOp}{t:TypeId}{x y:AV}{u v:Value}{W:Nat→Prop}(hx:Rep w W ρ x u)(hy:Rep w W ρ y v)(hb:abin V.T t op x y=some (true,av))(ox oy:Operand):
  ∃ r,(do eqGuard op t ox oy u v;binOp op t u v:Sem Value).run P w=.ok r w∧Rep w W ρ av r:=by
 unfold abin at hb
 split at hb
 ·rename_i k x l y
  cases hx with | int _ _ hx=>
  cases hy with | int _ _ hy=>
  simp only [Sem.run_bind,eqGuard_int,Result.andThen_ok]
  split at hb
  ·simp only [Option.some.injEq,Prod.mk.injEq,decide_eq_true_eq] at hb
   obtain⟨h1,rfl⟩:=hb
   exact⟨_,(shift_ok (k:=k) (l:=l) hx h1).1,.int _ _ (wrap_has _ _)⟩
  ·simp only [Option.some.injEq,Prod.mk.injEq,decide_eq_true_eq] at hb
   obtain⟨h1,rfl⟩:=hb
   exact⟨_,(shift_ok (k:=k) (l:=l) hx h1).2,.int _ _ (fdiv_has _ _ _ hx)⟩
  ·split at hb <;> try contradiction
   rename_i hk
   rw [decide_eq_true_eq] at hk;subst hk
   obtain⟨r,h1,h2⟩:=binOp_ok (P:=P) (w:=w) (t:=t) hx hy hb
   exact⟨r,h1,h2 _ _⟩
 ·cases hx;cases hy
  simp only [Sem.run_bind,eqGuard_str,Result.andThen_ok]
  obtain⟨r,h1,h2⟩:=sbin_ok (P:=P) (w:=w) (t:=t) hb
  exact⟨r,h1,h2 _ _⟩
 ·rename_i x y
  cases hx;cases hy
  simp only [Sem.run_bind,eqGuard_bool,Result.andThen_ok]
  split at hb <;> try contradiction
  ·rename_i hd
   simp only [Option.some.injEq,Prod.mk.injEq,true_and] at hb;subst hb
   exact⟨_,by simp only [binOp,Sem.run_bind,run_equal_bool w t x y ((h t).bool hd),Result.andThen_ok,Sem.run_pure],.bool _⟩
  ·rename_i hd
   simp only [Option.some.injEq,Prod.mk.injEq,true_and] at hb;subst hb
   exact⟨_,by simp only [binOp,Sem.run_bind,run_equal_bool w t x y ((h t).bool hd),Result.andThen_ok,Sem.run_pure],.bool _⟩
 ·rename_i n x m y
  split at hb <;> try contradiction
  ·simp only [Option.map_eq_some_iff] at hb
   obtain⟨b,h1,h2⟩:=hb
   cases h2
   obtain⟨g1,g2⟩:=run_equal_agg h hx hy h1
   have hg:=g2 .eql ox oy
   cases hx;cases hy
   simp only [Sem.run_bind,hg,Result.andThen_ok]
   exact⟨_,by simp only [binOp,Sem.run_bind,g1,Result.andThen_ok,Sem.run_pure],.bool _⟩
  ·simp only [Option.map_eq_some_iff] at hb
   obtain⟨b,h1,h2⟩:=hb
   cases h2
   obtain⟨g1,g2⟩:=run_equal_agg h hx hy h1
   have hg:=g2 .neq ox oy
   cases hx;cases hy
   simp only [Sem.run_bind,hg,Result.andThen_ok]
   exact⟨_,by simp only [binOp,Sem.run_bind,g1,Result.andThen_ok,Sem.run_pure],.bool _⟩
 ·-- a slice beside nil
  rename_i r f
  cases hy with | ns=>
  have hn:∀ b len cap,(f=2→b≠none)→(f=3→b=none)→u=.slice b len cap → ∃ r,(do eqGuard op t ox oy u (.slice none 0 0);binOp op t u (.slice none 0 0):Sem Value).run P w=.ok r w∧Rep w W ρ av r:=by
   intro b len cap h2 h3 hu
   subst hu
   have hg:∀ op,(eqGuard op t ox oy (.slice b len cap) (.slice none 0 0)).run P w=.ok () w:=fun op=>by
    unfold eqGuard;cases op <;> rfl
   have heq:∀ e,P.underlying t=some (.slice e)→(Op.equal t (.slice b len cap) (.slice none 0 0)).run P w=.ok b.isNone w:=fun e he=>by
    have hd:∀ d:Nat,(Op.equalIn (d+1) t (.slice b len cap) (.slice none 0 0)).run P w=.ok b.isNone w:=fun d=>by
     cases b <;> simp [Op.equalIn,run_underlying' he]
    exact hd 9999
   simp only [Sem.run_bind,hg,Result.andThen_ok]
   split at hb <;> try contradiction
   ·rename_i e hd
    have he:=heq e ((h t).slice e hd)
    split at hb <;> try contradiction
    ·simp only [Option.some.injEq,Prod.mk.injEq,true_and] at hb;subst hb
     refine⟨.bool (b.isNone),by simp only [binOp,Sem.run_bind,he,Result.andThen_ok,Sem.run_pure],?_⟩
     cases b with
     | none=>exact absurd rfl (h2 rfl)
     | some b=>exact .bool _
    ·simp only [Option.some.injEq,Prod.mk.injEq,true_and] at hb;subst hb
     refine⟨.bool (b.isNone),by simp only [binOp,Sem.run_bind,he,Result.andThen_ok,Sem.run_pure],?_⟩
     rw [h3 rfl];exact .bool _
   ·rename_i e hd
    have he:=heq e ((h t).slice e hd)
    split at hb <;> try contradiction
    ·simp only [Option.some.injEq,Prod.mk.injEq,true_and] at hb;subst hb
     refine⟨.bool (!b.isNone),by simp only [binOp,Sem.run_bind,he,Result.andThen_ok,Sem.run_pure],?_⟩
     cases b with
     | none=>exact absurd rfl (h2 rfl)
     | some b=>exact .bool _
    ·simp only [Option.some.injEq,Prod.mk.injEq,true_and] at hb;subst hb
     refine⟨.bool (!b.isNone),by simp only [binOp,Sem.run_bind,he,Result.andThen_ok,Sem.run_pure],?_⟩
     rw [h3 rfl];exact .bool _
  cases hx with
  | vs0 _ _ cap b _ _ hl=>exact hn b 0 cap (fun e=>by subst e;rcases hl with hl | ⟨_,⟨_,hl⟩ | ⟨hl,_⟩⟩ <;> first | exact hl | cases hl) (fun e=>by subst e;rcases hl with hl | ⟨_,⟨hl,_⟩ | ⟨_,hl⟩⟩ <;> first | exact hl | cases hl) rfl
  | vs _ _ _ l cap blk base vals hr h0 hnn hp hk=>exact hn (some ⟨blk,base,none⟩) l cap (fun _=>by simp) (fun e=>by subst e;rcases hk with hk | ⟨_,⟨hk,_⟩ | hk⟩ <;> simp [klen] at hk) rfl
 ·-- something beside nil
  split at hb <;> try contradiction
  ·rename_i p b hn
   simp only [Option.some.injEq,Prod.mk.injEq] at hb
   obtain⟨rfl,rfl⟩:=hb
   obtain⟨g1,g2,g3⟩:=anil_ok h hx hy hn
   simp only [Sem.run_bind,g1,Result.andThen_ok]
   exact⟨_,by simp only [g3 .eql (.inl rfl),Sem.run_bind,g2,Result.andThen_ok,Sem.run_pure];rfl,.bool _⟩
  ·rename_i p b hn
   simp only [Option.some.injEq,Prod.mk.injEq] at hb
   obtain⟨rfl,rfl⟩:=hb
   obtain⟨g1,g2,g3⟩:=anil_ok h hx hy hn
   simp only [Sem.run_bind,g1,Result.andThen_ok]
   exact⟨_,by simp only [g3 .neq (.inr rfl),Sem.run_bind,g2,Result.andThen_ok,Sem.run_pure];rfl,.bool _⟩
theorem Addr.add_mk(b o n:Nat):(⟨b,o,none⟩:Addr).add n=⟨b,o+n,none⟩:=by
 unfold Addr.add;split
 ·rename_i h;subst h;rfl
 ·rfl
theorem run_loadCells_rep{r:AV}{blk base n:Nat}{vals:Nat→Value}{W:Nat→Prop}(hw:r.wf)(hs:r.size=n)
  (hc:∀ j,j < n→w.cell? ⟨blk,base+j,none⟩=some (vals j)) (hr:∀ j,j < n→Rep w W ρ (r.cell j) (vals j)) :
  ∃ cs,(loadCells ⟨blk,base,none⟩ n).run P w=.ok cs w∧Rep w W ρ (.agg n r) (.agg cs)∧cs.size=n ∧ ∀ j,j < n→cs.getD j Go.undef=vals j:=by
 have h:=run_loadCells (P:=P) w ⟨blk,base,none⟩ n vals (fun j hj=>by rw [Addr.add_mk];exact hc j hj)
 refine⟨_,h,?_,?_,?_⟩
 ·refine .agg n r _ hw hs (by simp) fun j hj=>?_
  rw [show(((List.range n).map vals).toArray).getD j Go.undef=vals j by simp [Array.getD_eq_getD_getElem?,hj]]
  exact hr j hj
 ·simp
 ·intro j hj;simp [Array.getD_eq_getD_getElem?,hj]
theorem Sim.cells(h:Sim U V.G w0 W0 ρ s a w){id n:Nat}{r:AV}{b:Bool}{L:Loc}(hl:lkH id s.heap=.cells n r b)(hL:ρ id=some (some L)):
  (r.isM=false→r.wf)∧r.size=n∧L.n=n ∧ ∃ vals:Nat→Value,∀ j,j < n→w.cell? ⟨L.b,L.base+j,none⟩=some (vals j)∧Rep w (Wr U ρ s.heap) ρ (r.cell j) (vals j):=by
 have hb:=h.bl id n r b hl
 refine⟨hb.wf,hb.size,?_⟩
 rcases hb.lies with ⟨h1,_⟩ | ⟨L',h1,h2,h3,_,_⟩
 ·rw [h1] at hL;cases hL
 ·rw [h1] at hL;cases hL
  refine⟨h2,fun j=>(w.cell? ⟨L.b,L.base+j,none⟩).getD Go.undef,fun j hj=>?_⟩
  obtain⟨v,hv,hr⟩:=h3 j hj
  simp only [hv];exact⟨rfl,hr⟩
theorem aload_ok(h:TysOk P V.T)(hs:Sim U V.G w0 W0 ρ s a w){t:Nat}{p:AV}{u:Value}(hp:Rep w (Wr U ρ s.heap) ρ p u)(hl:aload V t p s=some av):
  ∃ v,(Instr.loadAt t u).run P w=.ok v w∧Rep w (Wr U ρ s.heap) ρ av v:=by
 have one:∀ (blk off:Nat) (v:Value),(V.T.at t).d.isAgg=false→(V.T.at t).sz=1→w.cell? ⟨blk,off,none⟩=some v →
   (Instr.loadAt t (.pointer (some ⟨blk,off,none⟩))).run P w=.ok v w:=fun blk off v h1 h2 hc=>by
  simp [Instr.loadAt,Instr.sureAddr,loadVar,run_isAgg_one h h1 h2,hc]
 have many:∀ (blk off:Nat) (r:AV),(V.T.at t).d.isAgg=true→0 < (V.T.at t).sz→r.wf→r.size=(V.T.at t).sz→(∀ j,j < (V.T.at t).sz → ∃ v,w.cell? ⟨blk,off+j,none⟩=some v∧Rep w (Wr U ρ s.heap) ρ (r.cell j) v) →
   ∃ v,(Instr.loadAt t (.pointer (some ⟨blk,off,none⟩))).run P w=.ok v w∧Rep w (Wr U ρ s.heap) ρ (.agg (V.T.at t).sz r) v:=fun blk off r h1 h0 hw hsz hc=>by
  obtain⟨cs,g1,g2,_,_⟩:=run_loadCells_rep (P:=P) (vals:=fun j=>(w.cell? ⟨blk,off+j,none⟩).getD Go.undef) hw hsz
   (fun j hj=>by obtain⟨v,hv,_⟩:=hc j hj;rw [hv];rfl) (fun j hj=>by obtain⟨v,hv,hr⟩:=hc j hj;rw [hv];exact hr)
  exact⟨.agg cs,by simp [Instr.loadAt,Instr.sureAddr,loadVar,run_isAgg_many h h1,run_sizeOf' h h0,g1],g2⟩
 unfold aload at hl
 split at hl
 ·rename_i id b l i m c rm
  cases hp with | ptr _ _ _ _ _ _ _ L hL hi hx hb h0=>
  split at hl <;> try contradiction
  rename_i n r bb hH
  obtain⟨hw,hsz,hn,vals,hv⟩:=hs.cells hH hL
  have hw:=hw (size_isM (by omega))
  split at hl
  ·rename_i hagg
   split at hl <;> try contradiction
   rename_i hle
   rw [Bool.and_eq_true,Nat.ble_eq,Nat.blt_eq] at hle
   obtain⟨hle,hz⟩:=hle
   simp only [Option.map_eq_some_iff] at hl
   obtain⟨r',g1,rfl⟩:=hl
   ·have hp:=rgetN_spec r n b l i m c _ r' hw hsz hi (by omega) (by omega) hz g1
    refine many _ _ r' hagg hz hp.wf hp.size fun j hj=>⟨vals (b+ix i m c+j),?_,?_⟩
    ·rw [Nat.add_assoc];exact(hv (b+ix i m c+j) (by omega)).1
    ·rw [hp.cells j hj];exact(hv _ (by omega)).2
  ·rename_i hagg
   split at hl <;> try contradiction
   rename_i h1
   rw [Nat.beq_eq] at h1
   injection hl with hl
   have hagg':(V.T.at t).d.isAgg=false:=by simpa using hagg
   have g:=hv (b+ix i m c) (by omega)
   refine⟨_,one _ _ _ hagg' h1 g.1,?_⟩
   rcases rget_spec r b l i m c hw (by omega) (by omega) with e | e
   ·rw [← hl,e];exact g.2
   ·rw [← hl,e];exact .undef _
 ·rename_i r n i m c rm
  cases hp with | gp _ _ _ _ _ _ blk base vals hr hn hi hx h0 hW hc hrep=>
  split at hl
  ·rename_i hagg
   split at hl <;> try contradiction
   rename_i hle
   rw [Bool.and_eq_true,Nat.ble_eq,Nat.blt_eq] at hle
   obtain⟨hle,hz⟩:=hle
   simp only [Option.map_eq_some_iff] at hl
   obtain⟨r',g1,rfl⟩:=hl
   ·have hp:=rgetN_spec r n 0 n i m c _ r' (wf_leaf hr) hn hi (by omega) (by omega) hz g1
    refine many _ _ r' hagg hz hp.wf hp.size fun j hj=>⟨vals (0+ix i m c+j),?_,?_⟩
    ·rw [Nat.add_assoc,Nat.zero_add];exact hc _ (by omega)
    ·rw [hp.cells j hj];exact hrep _ (by omega)
  ·rename_i hagg
   split at hl <;> try contradiction
   rename_i h1
   rw [Nat.beq_eq] at h1
   injection hl with hl
   have hagg':(V.T.at t).d.isAgg=false:=by simpa using hagg
   refine⟨_,one _ _ _ hagg' h1 (hc (ix i m c) (by omega)),?_⟩
   rcases rget_spec r 0 n i m c (wf_leaf hr) (by omega) (by omega) with e | e
   ·rw [← hl,e,Nat.zero_add];exact hrep _ (by omega)
   ·rw [← hl,e];exact .undef _
 ·contradiction
theorem run_store1{blk off:Nat}{u v:Value}{c:Array Value}{t:TypeId}{fr:Nat×Nat}(hc:w.cell? ⟨blk,off,none⟩=some u)(hf:w.frozen? ⟨blk,off,none⟩=false)
  (h1:∀ c,v≠.agg c) (h2:∀ c,v≠.tuple c):(store ⟨blk,off,none⟩ v).run P w=.ok () (w.setCell ⟨blk,off,none⟩ v):=by
 unfold store
 cases v <;> simp_all [Sem.run]
theorem setCell_other{blk off b:Nat}{v:Value}(h:b≠blk):(w.setCell ⟨blk,off,none⟩ v).heap[b]?=w.heap[b]?:=by
 simp only [World.setCell,Array.getElem?_modify]
 rw [if_neg (fun e=>h e.symm)]
theorem setCell_self{blk off:Nat}{v:Value}{c:Array Value}{t:TypeId}{fr:Nat×Nat}(h:w.heap[blk]?=some (.cells c t fr)):
  (w.setCell ⟨blk,off,none⟩ v).heap[blk]?=some (.cells (c.setIfInBounds off v) t fr):=by
 simp [World.setCell,Array.getElem?_modify,h]
theorem run_storeCells_mine(blk:Nat)(t:TypeId)(fr:Nat×Nat)(o:Nat):∀ (vs:List Value) (i:Nat) (c:Array Value) (w:World),w.heap[blk]?=some (.cells c t fr)→o+i+vs.length≤c.size →
  (∀ j,j < c.size→w.frozen? ⟨blk,j,none⟩=false)→(∀ v∈vs,(∀ x,v≠.agg x) ∧ ∀ x,v≠.tuple x) →
  ∃ w' c',(storeCells ⟨blk,o,none⟩ vs i).run P w=.ok () w'∧WSame w w'∧w'.heap.size=w.heap.size∧(∀ b,b≠blk→w'.heap[b]?=w.heap[b]?)∧w'.heap[blk]?=some (.cells c' t fr)∧c'.size=c.size ∧
   (∀ j,c'.getD j Go.undef=if o+i≤j∧j < o+i+vs.length then vs.getD (j-(o+i)) Go.undef else c.getD j Go.undef)
 | [],i,c,w,hb,hl,hf,hv=>⟨w,c,by simp [storeCells],WSame.refl _,rfl,fun _ _=>rfl,hb,rfl,fun j=>by simp;omega⟩
 | v :: vs,i,c,w,hb,hl,hf,hv=>by
  simp only [List.length_cons] at hl
  have hc:w.cell? ⟨blk,o+i,none⟩=some (c.getD (o+i) Go.undef):=by
   unfold World.cell?;simp only [hb];simp [Array.getD_eq_getD_getElem?,Array.getElem?_eq_getElem (show o+i < c.size by omega)]
  have h1:=run_store1 (P:=P) (c:=c) (t:=t) (fr:=fr) hc (hf (o+i) (by omega)) (hv v (by simp)).1 (hv v (by simp)).2
  have hb':=setCell_self (off:=o+i) (v:=v) hb
  obtain⟨w',c',g1,gs,g2,g3,g4,g5,g6⟩:=run_storeCells_mine blk t fr o vs (i+1) _ (w.setCell ⟨blk,o+i,none⟩ v) hb' (by simp;omega)
   (fun j hj=>by rw [World.frozen?_setCell];exact hf j (by simpa using hj)) (fun u hu=>hv u (by simp [hu]))
  refine⟨w',c',?_,WSame.trans ⟨by simp [World.setCell],by simp [World.setCell],by simp [World.setCell]⟩ gs,by rw [g2];simp,fun b hb=>(g3 b hb).trans (setCell_other hb),g4,by rw [g5];simp,fun j=>?_⟩
  ·simp only [storeCells,Sem.run_bind,Addr.add_mk,h1,Result.andThen_ok];exact g1
  ·rw [g6 j]
   simp only [List.length_cons]
   by_cases e:j=o+i
   ·subst e
    rw [if_neg (by omega),if_pos (by omega)]
    simp [Array.getD_eq_getD_getElem?,show o+i < c.size by omega]
   ·by_cases e2:o+i+1≤j∧j < o+i+1+vs.length
    ·rw [if_pos (by omega),if_pos (by omega),show j-(o+i)=(j-(o+(i+1)))+1 by omega]
     rfl
    ·rw [if_neg (by omega),if_neg (by omega)]
     simp [Array.getD_eq_getD_getElem?,Array.getElem?_setIfInBounds,Ne.symm e]
end Go.Am
end
section
/- Slices as views; stores. -/
namespace Go.Am
open Go
variable {P : Program} {V : Env} {U : Oth} {w0 : World} {W0 : Nat → Prop} {o : Oper} {ρ ρ' : Rho} {s s' : St} {a : Act} {w w' : World} {av : AV}
theorem slen_eq{r:AV}{len l sz:Nat}(h:r.size=l*sz)(hk:len=klen l sz):slen r len sz=l:=by
 unfold slen;unfold klen at hk
 split
 ·simpa using h
 ·split at hk
  ·simp_all
  ·exact hk
theorem slen_eqv{r:AV}{len l sz cap:Nat}(h:r.size=l*sz)(hk:len=klen l sz∨(sz=1∧(len=1∧cap=l∨len=2))):slen r len sz=l:=by
 rcases hk with hk | ⟨rfl,_⟩
 ·exact slen_eq h hk
 ·unfold slen;simpa using h
theorem slen_zero{r:AV}(h:r.size=0)(sz:Nat):slen r 0 sz=0:=by
 unfold slen;split
 ·exact h
 ·rfl
theorem slen_zeroV{r:AV}{len sz:Nat}{a:Option Addr}(h:r.size=0)(hl:len=0∨(sz=1∧(len=2∧a≠none∨len=3∧a=none))):slen r len sz=0:=by
 rcases hl with rfl | ⟨rfl,_⟩
 ·exact slen_zero h sz
 ·unfold slen;exact h
theorem klen_zero(sz:Nat):klen 0 sz=0:=by unfold klen;split <;> rfl
theorem Sim.not_wr(h:Sim U V.G w0 W0 ρ s a w){id n:Nat}{r:AV}{b:Bool}{L:Loc}(hl:lkH id s.heap=.cells n r b)(hL:ρ id=some (some L)):
  ¬ Wr U ρ (s.setH id (.cells n r false)).heap L.b:=by
 rintro(hU | ⟨M,hx⟩ | ⟨i,n',r',L',h1,h2,h3⟩)
 ·exact h.su id n r b L hl hL (U.sub _ hU)
 ·exact h.xk.s _ _ _ _ _ _ _ hx hl hL rfl
 simp only [St.setH] at h1
 rw [lkH_put] at h1
 by_cases hi:i=id
 ·rw [if_pos hi] at h1;cases h1
 ·rw [if_neg hi] at h1
  exact hi (h.sep i id _ _ _ _ _ L' L h1 hl h2 hL h3)
theorem Sim.freezeId(h:Sim U V.G w0 W0 ρ s a w)(id:Nat):Sim U V.G w0 W0 ρ (freezeId s id) a w ∧ ∀ x v,Rep w (Wr U ρ s.heap) ρ x v→Rep w (Wr U ρ (Am.freezeId s id).heap) ρ x v:=by
 unfold Am.freezeId
 split
 ·rename_i n r b hl;exact h.weaken (.inr ⟨n,r,b,hl,rfl⟩)
 ·exact⟨h,fun _ _ h=>h⟩
theorem Sim.freeze(h:Sim U V.G w0 W0 ρ s a w)(v:AV):Sim U V.G w0 W0 ρ (Am.freeze s v) a w ∧ ∀ x u,Rep w (Wr U ρ s.heap) ρ x u→Rep w (Wr U ρ (Am.freeze s v).heap) ρ x u:=by
 unfold Am.freeze
 split
 ·exact h.freezeId _
 ·exact h.freezeId _
 ·exact⟨h,fun _ _ h=>h⟩
theorem Parts.leaf{r r':AV}{st n:Nat}(h:r.part st n=some r'):r'.leafB=true:=by
 cases r <;> simp only [AV.part,Option.some.injEq,reduceCtorEq] at h
 all_goals subst h;rfl
mutual
theorem vpart_leaf:∀ (r:AV) (b l st n:Nat) (r':AV),r.vpart b l st n=some r'→r'.leafB=true
 | .segs s,b,l,st,n,r',h=>by simp only [AV.vpart] at h;exact vpartS_leaf s b l st n r' h
 | .rI _ _,b,l,st,n,r',h=>by simp only [AV.vpart] at h;exact Parts.leaf h
 | .rB _,b,l,st,n,r',h=>by simp only [AV.vpart] at h;exact Parts.leaf h
 | .rS _,b,l,st,n,r',h=>by simp only [AV.vpart] at h;exact Parts.leaf h
 | .rL _ _,b,l,st,n,r',h=>by simp only [AV.vpart] at h;exact Parts.leaf h
 | .one _,b,l,st,n,r',h=>by simp only [AV.vpart] at h;exact Parts.leaf h
 | .undef,b,l,st,n,r',h=>by simp only [AV.vpart] at h;exact Parts.leaf h
 | .bool _,b,l,st,n,r',h=>by simp only [AV.vpart] at h;exact Parts.leaf h
 | .int _ _,b,l,st,n,r',h=>by simp only [AV.vpart] at h;exact Parts.leaf h
 | .str _,b,l,st,n,r',h=>by simp only [AV.vpart] at h;exact Parts.leaf h
 | .rT _ _,b,l,st,n,r',h=>by simp only [AV.vpart] at h;exact Parts.leaf h
 | .agg _ _,b,l,st,n,r',h=>by simp only [AV.vpart] at h;exact Parts.leaf h
 | .tup _,b,l,st,n,r',h=>by simp only [AV.vpart] at h;exact Parts.leaf h
 | .nilp,b,l,st,n,r',h=>by simp only [AV.vpart] at h;exact Parts.leaf h
 | .ptr _ _ _ _ _ _ _,b,l,st,n,r',h=>by simp only [AV.vpart] at h;exact Parts.leaf h
 | .gp _ _ _ _ _ _,b,l,st,n,r',h=>by simp only [AV.vpart] at h;exact Parts.leaf h
 | .ns,b,l,st,n,r',h=>by simp only [AV.vpart] at h;exact Parts.leaf h
 | .own _ _ _,b,l,st,n,r',h=>by simp only [AV.vpart] at h;exact Parts.leaf h
 | .sl _ _ _ _ _ _,b,l,st,n,r',h=>by simp only [AV.vpart] at h;exact Parts.leaf h
 | .vs _ _ _,b,l,st,n,r',h=>by simp only [AV.vpart] at h;exact Parts.leaf h
 | .mp _,b,l,st,n,r',h=>by simp only [AV.vpart] at h;exact Parts.leaf h
 | .nilm,b,l,st,n,r',h=>by simp only [AV.vpart] at h;exact Parts.leaf h
 | .fn _ _,b,l,st,n,r',h=>by simp only [AV.vpart] at h;exact Parts.leaf h
 | .nilf,b,l,st,n,r',h=>by simp only [AV.vpart] at h;exact Parts.leaf h
theorem vpartS_leaf:∀ (s:AVs) (b l st n:Nat) (r':AV),s.vpartS b l st n=some r'→r'.leafB=true
 | .nil,b,l,st,n,r',h=>by simp [AVs.vpartS] at h
 | .cons m v t,b,l,st,n,r',h=>by
  simp only [AVs.vpartS] at h
  split at h
  ·split at h
   ·exact vpart_leaf v b l st n r' h
   ·contradiction
  ·exact vpartS_leaf t (b-m) l st n r' h
end
theorem part_size0{r r':AV}{st:Nat}(h:r.part st 0=some r'):r'.size=0:=by
 cases r <;> simp only [AV.part,Option.some.injEq,reduceCtorEq] at h
 all_goals subst h;simp [AV.size]
mutual
theorem vpart_size0:∀ (r:AV) (b l st:Nat) (r':AV),r.vpart b l st 0=some r'→r'.size=0
 | .segs s,b,l,st,r',h=>by simp only [AV.vpart] at h;exact vpartS_size0 s b l st r' h
 | .rI _ _,b,l,st,r',h=>by simp only [AV.vpart] at h;exact part_size0 h
 | .rB _,b,l,st,r',h=>by simp only [AV.vpart] at h;exact part_size0 h
 | .rS _,b,l,st,r',h=>by simp only [AV.vpart] at h;exact part_size0 h
 | .rL _ _,b,l,st,r',h=>by simp only [AV.vpart] at h;exact part_size0 h
 | .one _,b,l,st,r',h=>by simp only [AV.vpart] at h;exact part_size0 h
 | .undef,b,l,st,r',h=>by simp only [AV.vpart] at h;exact part_size0 h
 | .bool _,b,l,st,r',h=>by simp only [AV.vpart] at h;exact part_size0 h
 | .int _ _,b,l,st,r',h=>by simp only [AV.vpart] at h;exact part_size0 h
 | .str _,b,l,st,r',h=>by simp only [AV.vpart] at h;exact part_size0 h
 | .rT _ _,b,l,st,r',h=>by simp only [AV.vpart] at h;exact part_size0 h
 | .agg _ _,b,l,st,r',h=>by simp only [AV.vpart] at h;exact part_size0 h
 | .tup _,b,l,st,r',h=>by simp only [AV.vpart] at h;exact part_size0 h
 | .nilp,b,l,st,r',h=>by simp only [AV.vpart] at h;exact part_size0 h
 | .ptr _ _ _ _ _ _ _,b,l,st,r',h=>by simp only [AV.vpart] at h;exact part_size0 h
 | .gp _ _ _ _ _ _,b,l,st,r',h=>by simp only [AV.vpart] at h;exact part_size0 h
 | .ns,b,l,st,r',h=>by simp only [AV.vpart] at h;exact part_size0 h
 | .own _ _ _,b,l,st,r',h=>by simp only [AV.vpart] at h;exact part_size0 h
 | .sl _ _ _ _ _ _,b,l,st,r',h=>by simp only [AV.vpart] at h;exact part_size0 h
 | .vs _ _ _,b,l,st,r',h=>by simp only [AV.vpart] at h;exact part_size0 h
 | .mp _,b,l,st,r',h=>by simp only [AV.vpart] at h;exact part_size0 h
 | .nilm,b,l,st,r',h=>by simp only [AV.vpart] at h;exact part_size0 h
 | .fn _ _,b,l,st,r',h=>by simp only [AV.vpart] at h;exact part_size0 h
 | .nilf,b,l,st,r',h=>by simp only [AV.vpart] at h;exact part_size0 h
theorem vpartS_size0:∀ (s:AVs) (b l st:Nat) (r':AV),s.vpartS b l st 0=some r'→r'.size=0
 | .nil,b,l,st,r',h=>by simp [AVs.vpartS] at h
 | .cons m v t,b,l,st,r',h=>by
  simp only [AVs.vpartS] at h
  split at h
  ·split at h
   ·exact vpart_size0 v b l st r' h
   ·contradiction
  ·exact vpartS_size0 t (b-m) l st r' h
end
theorem partE_leaf{r r':AV}{o len sz:Nat}(h:r.partE o len sz=some r'):r'.leafB=true:=by
 unfold AV.partE at h
 split at h
 ·split at h <;> try contradiction
  injection h with h;subst h;rfl
 ·exact Parts.leaf h
theorem partE_size0{r r':AV}{o sz:Nat}(h:r.partE o 0 sz=some r'):r'.size=0:=by
 unfold AV.partE at h
 split at h
 ·split at h <;> try contradiction
  injection h with h;subst h;simp [AV.size]
 ·rw [mz_eq,mz_eq,Nat.zero_mul] at h;exact part_size0 h
theorem vpartE_leaf{r r':AV}{b lim o len sz:Nat}(h:r.vpartE b lim o len sz=some r'):r'.leafB=true:=by
 unfold AV.vpartE at h
 split at h
 ·split at h <;> try contradiction
  injection h with h;subst h;rfl
 ·exact vpart_leaf _ _ _ _ _ _ h
theorem vpartE_size0{r r':AV}{b lim o sz:Nat}(h:r.vpartE b lim o 0 sz=some r'):r'.size=0:=by
 unfold AV.vpartE at h
 split at h
 ·split at h <;> try contradiction
  injection h with h;subst h;simp [AV.size]
 ·rw [mz_eq,mz_eq,Nat.zero_mul] at h;exact vpart_size0 _ _ _ _ _ h
theorem view_cells(h:TysOk P V.T)(hs:Sim U V.G w0 W0 ρ s a w){e:Nat}{x:AV}{u:Value}{r:AV}{len sz:Nat}(hx:Rep w (Wr U ρ s.heap) ρ x u)(hv:view V s e x=some (r,len,sz)):
  r.leafB=true∧r.size=len*sz∧(0 < sz∨len=0)∧len < 4611686018427387904 ∧ ∃ b cap,u=.slice b len cap∧len≤cap∧(len*sz=0 ∨ ∃ blk base,∃ vals:Nat→Value,b=some ⟨blk,base,none⟩ ∧
   (∀ j,j < len*sz→w.cell? ⟨blk,base+j,none⟩=some (vals j)∧Rep w (Wr U ρ s.heap) ρ (r.cell j) (vals j))∧¬ Wr U ρ (freeze s x).heap blk):=by
 unfold view at hv
 split at hv
 ·injection hv with hv
  simp only [Prod.mk.injEq] at hv
  obtain⟨rfl,rfl,rfl⟩:=hv
  cases hx with
  | vs0 _ _ cap b hr hn hl=>rw [slen_zeroV hn hl];exact⟨hr,by simp [hn],.inr rfl,by omega,b,cap,rfl,Nat.zero_le _,.inl (by simp)⟩
  | vs _ _ _ l cap blk base vals hr h0 hn hp hk hcap hm hW hc hrep=>
   rw [slen_eqv hn hk]
   exact⟨hr,hn,.inl h0,hm,_,cap,rfl,hcap,.inr ⟨blk,base,vals,rfl,fun j hj=>⟨hc j hj,hrep j hj⟩,hW⟩⟩
 ·simp only [Option.map_eq_some_iff,Prod.mk.injEq] at hv
  obtain⟨r',h1,rfl,rfl,rfl⟩:=hv
  cases hx with | ns=>
  obtain⟨_,g1,g2,_⟩:=h.zrow h1
  exact⟨g1,by rw [g2],.inr rfl,by omega,none,0,rfl,Nat.le_refl _,.inl (by simp)⟩
 ·rename_i id len0 sz0
  split at hv <;> try contradiction
  rename_i n r1 bb hl
  split at hv <;> try contradiction
  rename_i hleaf
  injection hv with hv
  simp only [Prod.mk.injEq] at hv
  obtain⟨rfl,rfl,rfl⟩:=hv
  cases hx with
  | own0 _ _ b hL=>
   have hb:=hs.bl id n r1 bb hl
   have hz:r1.size=0:=by
    rcases hb.lies with ⟨_,h2⟩ | ⟨L,h1,_⟩
    ·rw [hb.size,h2]
    ·rw [hL] at h1;cases h1
   rw [slen_zero hz]
   exact⟨hleaf,by simp [hz],.inr rfl,by omega,b,0,rfl,Nat.le_refl _,.inl (by simp)⟩
  | own _ _ _ l cap L hL hn hk hcap hS h0 hm=>
   obtain⟨hw,hsz,hLn,vals,hv⟩:=hs.cells hl hL
   have hsz':r1.size=l*sz0:=by omega
   rw [slen_eq hsz' hk]
   refine⟨hleaf,hsz',.inl h0,hm,_,cap,rfl,hcap,.inr ⟨L.b,L.base,vals,rfl,fun j hj=>hv j (by omega),?_⟩⟩
   simp only [freeze,freezeId,hl]
   exact hs.not_wr hl hL
 ·rename_i id b lim o len0 sz0
  split at hv <;> try contradiction
  rename_i n r1 bb hl
  simp only [Option.map_eq_some_iff,Prod.mk.injEq] at hv
  obtain⟨r',h1,rfl,rfl,rfl⟩:=hv
  have hleaf:=vpartE_leaf h1
  cases hx with
  | sl0 _ _ _ _ _ b'=>
   refine⟨hleaf,?_,.inr rfl,by omega,b',0,rfl,Nat.le_refl _,.inl (by simp)⟩
   simp only [Nat.zero_mul]
   exact vpartE_size0 h1
  | sl _ _ _ _ _ _ cap L hL h0 hx hb hcap hm=>
   obtain⟨hw,hsz,hLn,vals,hv⟩:=hs.cells hl hL
   have hw:=hw (by cases r1 <;> first | rfl | (simp [AV.vpartE,AV.vpart,AV.part] at h1))
   have hp:=vpartE_spec hw (by rw [← Nat.add_mul];exact hx) (by omega) h1
   rw [Nat.add_mul] at hx
   refine⟨hleaf,hp.size,.inl h0,hm,_,cap,rfl,hcap,.inr ⟨L.b,L.base+(b+o*sz0),fun j=>vals (b+o*sz0+j),rfl,fun j hj=>?_,?_⟩⟩
   ·rw [hp.cells j hj,Nat.add_assoc];exact hv _ (by omega)
   ·simp only [freeze,freezeId,hl]
    exact hs.not_wr hl hL
 ·contradiction
theorem coerce_ok(h:TysOk P V.T)(hs:Sim U V.G w0 W0 ρ s a w){e:Nat}{x:AV}{u:Value}{r:AV}{len sz:Nat}(hx:Rep w (Wr U ρ s.heap) ρ x u)(hv:view V s e x=some (r,len,sz)):
  Rep w (Wr U ρ (freeze s x).heap) ρ (mkvs r len sz) u:=by
 obtain⟨g1,g2,h0,hm,b,cap,rfl,g3,g4⟩:=view_cells h hs hx hv
 have hf:=(hs.freeze x).2
 rcases g4 with g4 | ⟨blk,base,vals,rfl,g5,g6⟩
 ·have:len=0:=by rcases Nat.mul_eq_zero.1 g4 with h | h <;> omega
  subst this
  unfold mkvs;rw [klen_zero]
  exact .vs0 r sz cap b g1 (by simpa using g2)
 ·by_cases hl:0 < len
  ·exact .vs r _ sz len cap blk base vals g1 (by omega) g2 hl (.inl rfl) g3 hm g6 (fun j hj=>(g5 j hj).1) (fun j hj=>hf _ _ (g5 j hj).2)
  ·have:len=0:=by omega
   subst this
   unfold mkvs;rw [klen_zero]
   exact .vs0 r sz cap _ g1 (by simpa using g2)
theorem rep_one{x:AV}{u:Value}{W:Nat→Prop}(h:Rep w W ρ x u)(hs:x.scal=true):Rep w W ρ (.agg 1 (.one x)) (.agg #[u]):=
 .agg 1 (.one x) #[u] hs rfl rfl fun j hj=>by
  have:j=0:=by omega
  subst this;exact h
theorem Sim.write(hs:Sim U V.G w0 W0 ρ s a w){id n k m:Nat}{r r' x:AV}{L:Loc}{cs:Array Value}(hl:lkH id s.heap=.cells n r true)(hL:ρ id=some (some L))
  (hset:SetsN r r' k m x) (hx:Rep w (Wr U ρ s.heap) ρ (.agg m x) (.agg cs)) (hk:k+m≤n) (hn0:0 < n) (htag:∀ t,r'.tag=some t→r.tag=some t) :
  ∃ w',(storeCells ⟨L.b,L.base+k,none⟩ cs.toList).run P w=.ok () w'∧Sim U V.G w0 W0 ρ (s.setH id (.cells n r' true)) a w' ∧
   (∀ y v,Rep w (Wr U ρ s.heap) ρ y v→Rep w' (Wr U ρ (s.setH id (.cells n r' true)).heap) ρ y v):=by
 cases hx with | agg _ _ _ hxw hxs hcs hrep=>
 obtain⟨hw,hsz,hLn,vals,hv⟩:=hs.cells hl hL
 have hw:=hw (size_isM (by omega))
 have hb:=hs.bl id n r true hl
 have hm:Mine w L:=by
  rcases hb.lies with ⟨h1,_⟩ | ⟨L',h1,_,_,h4,_⟩
  ·rw [h1] at hL;cases hL
  ·rw [h1] at hL;cases hL;exact h4 rfl (size_isM (by omega))
 obtain⟨c,t,fr,h1,h2,h3,h4⟩:=hm
 obtain⟨w',c',g1,gs,g2,g3,g4,g5,g6⟩:=run_storeCells_mine (P:=P) L.b t fr (L.base+k) cs.toList 0 c w h1 (by simp;omega) (fun j hj=>h4 j (by omega)) (fun v hv=>by
  obtain⟨j,hj,rfl⟩:=List.mem_iff_getElem.1 hv
  have hj':j < m:=by simpa [hcs] using hj
  have e:cs.getD j Go.undef=cs.toList[j]:=by simp [Array.getD_eq_getD_getElem?,show j < cs.size by omega]
  have:=(hrep j hj').one (cell_scal x j hxw (by omega))
  rw [e] at this
  exact this.2)
 have hfz:∀ j,j < L.S→w'.frozen? ⟨L.b,j,none⟩=false:=fun j hj=>by
  have:=h4 j hj
  unfold World.frozen? at this ⊢
  simp only [h1] at this
  simp only [g4];exact this
 have:=hs.rewrite (w':=w') (htag:=htag) hl hL gs hset.wf (hset.size.trans hsz) g2 g3 ⟨c',t,fr,g4,⟨g5.trans h2.1,h2.2⟩,h3,hfz⟩ fun j hj=>by
  have hlt:L.base+j < c'.size:=by omega
  refine⟨c'.getD (L.base+j) Go.undef,by unfold World.cell?;simp only [g4];simp [Array.getD_eq_getD_getElem?,Array.getElem?_eq_getElem hlt],?_⟩
  rw [g6]
  simp only [Nat.add_zero,Array.length_toList]
  by_cases hin:k≤j∧j < k+m
  ·rw [if_pos (by omega)]
   have e:=hset.same (j-k) (by omega)
   rw [show k+(j-k)=j by omega] at e
   rw [e,show L.base+j-(L.base+k)=j-k by omega]
   have:=hrep (j-k) (by omega)
   simpa [Array.getD_eq_getD_getElem?,List.getD_eq_getElem?_getD] using this
  ·rw [if_neg (by omega),hset.other j (by omega) (by omega)]
   have:=hv j hj
   have e:w.cell? ⟨L.b,L.base+j,none⟩=some (c.getD (L.base+j) Go.undef):=by
    unfold World.cell?;simp only [h1];simp [Array.getD_eq_getD_getElem?,Array.getElem?_eq_getElem (show L.base+j < c.size by omega)]
   rw [e] at this
   have h5:=this.1
   injection h5 with h5
   rw [h5];exact this.2
 exact⟨w',g1,this.1,this.2⟩
theorem Sets.setsN{r r' x:AV}{j:Nat}(h:Sets r r' j x):SetsN r r' j 1 (.one x) where
 wf:=h.wf
 size:=h.size
 same:=fun k hk=>by
  have:k=0:=by omega
  subst this;exact h.same
 other:=fun k _ hk=>h.other k (by omega)
theorem astore_ok(h:TysOk P V.T)(hs:Sim U V.G w0 W0 ρ s a w){t:Nat}{p x:AV}{u xv:Value}(hp:Rep w (Wr U ρ s.heap) ρ p u)(hx:Rep w (Wr U ρ s.heap) ρ x xv)(hl:astore V t p x s=some s'):
  ∃ w',(Instr.storeAt t u xv).run P w=.ok () w'∧Sim U V.G w0 W0 ρ s' a w':=by
 unfold astore at hl
 split at hl <;> try contradiction
 rename_i id b l i m c rm
 cases hp with | ptr _ _ _ _ _ _ _ L hL hi hxx hb h0=>
 split at hl <;> try contradiction
 rename_i n r hH
 obtain⟨hw,hsz,hLn,_⟩:=hs.cells hH hL
 have hw:=hw (size_isM (by omega))
 split at hl
 ·rename_i hagg
  split at hl <;> try contradiction
  rename_i n' r' hle
  rw [Bool.and_eq_true,Nat.ble_eq,Nat.blt_eq] at hle
  split at hl <;> try contradiction
  rename_i hn'
  rw [Nat.beq_eq] at hn';subst hn'
  simp only [Option.map_eq_some_iff] at hl
  obtain⟨r1,g1,rfl⟩:=hl
  cases hx with | agg _ _ cs hxw hxs hcs hrep=>
  have hset:=rsetN_spec r n b l i m c _ r' r1 hw hsz hi (by omega) (by omega) hle.2 hxw hxs g1
  obtain⟨w',g2,g3,_⟩:=hs.write (P:=P) hH hL hset (.agg _ r' cs hxw hxs hcs hrep) (by omega) (by omega) (tag_rsetN g1)
  refine⟨w',?_,g3⟩
  simp only [Instr.storeAt,Instr.sureAddr,storeVar,Sem.run_bind,Sem.run_pure,Result.andThen_ok,run_sizeOf' h hle.2,Value.cells,hcs,ne_eq,not_true,if_false]
  exact g2
 ·split at hl <;> try contradiction
  rename_i hagg hsc
  rw [Bool.and_eq_true,Nat.beq_eq] at hsc
  obtain⟨hsc,h1⟩:=hsc
  have fin:∀ (s:St) (x:AV) (r r1:AV),Sim U V.G w0 W0 ρ s a w→lkH id s.heap=.cells n r true→r.wf→r.size=n→x.scal=true→Rep w (Wr U ρ s.heap) ρ x xv→r.rset b l i m c x=some r1 →
    ∃ w',(Instr.storeAt t (.pointer (some ⟨L.b,L.base+(b+ix i m c),none⟩)) xv).run P w=.ok () w'∧Sim U V.G w0 W0 ρ (s.setH id (.cells n r1 true)) a w':=by
   intro s x r r1 hs hH hw hsz hsc hx g1
   have hset:=(rset_spec r b l i m c x r1 hw hsc (by omega) (by omega) g1).setsN
   obtain⟨w',g2,g3,_⟩:=hs.write (P:=P) hH hL hset (rep_one hx hsc) (by omega) (by omega) (tag_rset g1)
   refine⟨w',?_,g3⟩
   have hc:=(hx.one hsc).1
   simp only [Instr.storeAt,Instr.sureAddr,storeVar,Sem.run_bind,Sem.run_pure,Result.andThen_ok,run_sizeOf' h (show 0 < (V.T.at t).sz by omega),hc,h1,ne_eq,List.size_toArray,List.length_singleton,not_true,if_false]
   exact g2
  split at hl
  ·rename_i r1 g1
   injection hl with hl;subst hl
   exact fin s x r r1 hs hH hw hsz hsc hx g1
  ·split at hl <;> try contradiction
   rename_i e _
   split at hl <;> try contradiction
   rename_i x' hco
   dsimp only at hl
   split at hl <;> try contradiction
   rename_i n2 r2 hH2
   simp only [Option.map_eq_some_iff] at hl
   obtain⟨r1,g1,rfl⟩:=hl
   simp only [coerce,Option.map_eq_some_iff] at hco
   obtain⟨⟨rr,len,sz⟩,hv,rfl⟩:=hco
   have hx':=coerce_ok h hs hx hv
   have hs':=(hs.freeze x).1
   have hb2:=hs'.bl id n2 r2 true hH2
   have hn2:n2=n:=by
    rcases hb2.lies with ⟨h1,_⟩ | ⟨L',h1,h2,_⟩
    ·rw [h1] at hL;cases hL
    ·rw [h1] at hL;cases hL;omega
   subst hn2
   exact fin _ _ r2 r1 hs' hH2 (hb2.wf (size_isM (by have:=hb2.size;omega))) hb2.size rfl hx' g1
end Go.Am
end
section
/- Slice expressions. -/
namespace Go.Am
open Go
variable {P : Program} {V : Env} {U : Oth} {w0 : World} {W0 : Nat → Prop} {o : Oper} {ρ ρ' : Rho} {s s' : St} {a : Act} {w w' : World} {av : AV}
def LoIs(lo:Option Value)(l:Int):Prop:=(lo=none∧l=0) ∨ ∃ k,lo=some (.int k l)
def HiIs(hi:Option Value)(h:Int)(d:Nat):Prop:=(hi=none∧h=d) ∨ ∃ k,hi=some (.int k h)
theorem run_bound{k:IntKind}{i:Int}{y:Nat}{code:BoundsCode}(h0:0≤i)(h1:i≤y)(w:World):(Instr.sliceBound (.int k i) y code).run P w=.ok i.toNat w:=by
 simp [Instr.sliceBound,asIntOf,h0,h1]
theorem run_bounds{b:Bool}{len cap:Nat}{lo hi:Option Value}{l h:Int}(hl:LoIs lo l)(hh:HiIs hi h len)(h0:0≤l)(h1:l≤h)(h2:h≤cap)(w:World):
  (Instr.sliceBounds b len cap lo hi none).run P w=.ok (l.toNat,h.toNat,cap) w:=by
 have e1:(h.toNat:Int)=h:=Int.toNat_of_nonneg (by omega)
 rcases hl with ⟨rfl,rfl⟩ | ⟨k,rfl⟩ <;> rcases hh with ⟨rfl,rfl⟩ | ⟨k',rfl⟩
 ·simp [Instr.sliceBounds]
 ·simp [Instr.sliceBounds,run_bound (show 0≤h by omega) h2]
 ·simp [Instr.sliceBounds,run_bound h0 h1]
 ·simp [Instr.sliceBounds,run_bound (show 0≤h by omega) h2,run_bound h0 (show l≤h.toNat by omega)]
def OptRep(w:World)(W:Nat→Prop)(ρ:Rho)(x:Option AV)(u:Option Value):Prop:=(x=none∧u=none) ∨ ∃ y v,x=some y∧u=some v∧Rep w W ρ y v
theorem intOf_rep{W:Nat→Prop}{x:AV}{u:Value}{k:IntKind}{h:Int}(hr:Rep w W ρ x u)(hi:intOf x=some (k,h)):u=.int k h:=by
 unfold intOf at hi;split at hi <;> try contradiction
 injection hi with h1;cases h1
 cases hr;rfl
theorem low_ok{W:Nat→Prop}{lo:Option AV}{lo':Option Value}{l:Int}(h:OptRep w W ρ lo lo')(hl:lowOf lo=some l):LoIs lo' l:=by
 rcases h with ⟨rfl,rfl⟩ | ⟨x,u,rfl,rfl,hr⟩
 ·simp [lowOf] at hl;exact .inl ⟨rfl,hl.symm⟩
 ·simp only [lowOf,Option.map_eq_some_iff] at hl
  obtain⟨⟨k,n⟩,h1,rfl⟩:=hl
  exact .inr ⟨k,by rw [intOf_rep hr h1]⟩
theorem high_ok{W:Nat→Prop}{hi:Option AV}{hi':Option Value}{k:Int}{len:Nat}(h:OptRep w W ρ hi hi')(hl:highOf hi len=some k):HiIs hi' k len:=by
 rcases h with ⟨rfl,rfl⟩ | ⟨x,u,rfl,rfl,hr⟩
 ·simp [highOf] at hl;exact .inl ⟨rfl,hl.symm⟩
 ·simp only [highOf,Option.map_eq_some_iff] at hl
  obtain⟨⟨k,n⟩,h1,rfl⟩:=hl
  exact .inr ⟨k,by rw [intOf_rep hr h1]⟩
theorem slTy_ok(h:TysOk P V.T){t sz:Nat}(ht:slTy V.T t sz=true):0 < sz ∧ ∃ e,P.underlying t=some (.slice e)∧(V.T.at e).sz=sz:=by
 unfold slTy at ht
 split at ht
 ·rename_i e he
  rw [Bool.and_eq_true,Nat.beq_eq,Nat.blt_eq] at ht
  exact⟨ht.2,e,(h t).slice e he,ht.1⟩
 ·contradiction
theorem run_sliceAt_sl(h:TysOk P V.T){t sz:Nat}(ht:slTy V.T t sz=true){b:Option Addr}{len cap:Nat}{lo hi:Option Value}{l k:Int}(hl:LoIs lo l)(hh:HiIs hi k len)(h0:0≤l)(h1:l≤k)(h2:k≤cap)(w:World):
  (Instr.sliceAt t (.slice b len cap) lo hi none).run P w=.ok (.slice (if cap=l.toNat then b else b.map (·.add (l.toNat*sz))) (k.toNat-l.toNat) (cap-l.toNat)) w:=by
 obtain⟨g0,e,g1,g2⟩:=slTy_ok h ht
 have g3:(sizeOf e).run P w=.ok sz w:=by rw [run_sizeOf' h (by omega) w,g2]
 simp [Instr.sliceAt,Instr.slice,run_underlying' g1,run_bounds hl hh h0 h1 h2,g3]
theorem rep_vs_slice{W:Nat→Prop}{r r':AV}{len sz L cap l k:Nat}{b:Option Addr}(hx:Rep w W ρ (.vs r len sz) (.slice b L cap))(h0:0 < sz)(h1:l≤k)(h2:k≤L)(hp:r.partE l (k-l) sz=some r'):
  Rep w W ρ (mkvs r' (k-l) sz) (.slice (if cap=l then b else b.map (·.add (l*sz))) (k-l) (cap-l)):=by
 by_cases hkl:l < k
 ·cases hx with
  | vs0=>omega
  | vs _ _ _ _ _ blk base vals hr _ hn hp0 hk hcap hm hW hc hrep=>
   have e1:(k-l)*sz+l*sz=k*sz:=by rw [← Nat.add_mul,Nat.sub_add_cancel h1]
   have e2:k*sz≤L*sz:=Nat.mul_le_mul_right _ h2
   have hps:=partE_spec hp (by omega)
   rw [if_neg (by omega)]
   simp only [Option.map_some,Addr.add_mk]
   refine .vs r' _ sz (k-l) _ blk (base+l*sz) (fun j=>vals (l*sz+j)) (partE_leaf hp) h0 hps.size (by omega) (.inl rfl) (by omega) (by omega) hW (fun j hj=>?_) (fun j hj=>?_)
   ·rw [Nat.add_assoc];exact hc _ (by omega)
   ·rw [hps.cells j hj];exact hrep _ (by omega)
 ·have e:k-l=0:=by omega
  rw [e] at hp ⊢
  unfold mkvs;rw [klen_zero]
  exact .vs0 r' sz _ _ (partE_leaf hp) (partE_size0 hp)
theorem rep_sl_slice{W:Nat→Prop}{id b lim o sz L cap l k:Nat}{B:Loc}(hL:ρ id=some (some B))(h0:0 < sz)(hx:(o+L)*sz≤lim)(hb:b+lim≤B.n)(hcap:L≤cap)(hm:L < 4611686018427387904)(hlim:lim≤(o+cap)*sz)(hS:b+(o+cap)*sz≤B.n∨B.base+(b+(o+cap)*sz)≤B.S)(h1:l≤k)(h2:k≤L∨((o+k)*sz≤lim∧k≤cap∧k < 4611686018427387904)):
  Rep w W ρ (.sl id b lim (l+o) (k-l) sz) (.slice (if cap=l then some ⟨B.b,B.base+(b+o*sz),none⟩ else (some ⟨B.b,B.base+(b+o*sz),none⟩:Option Addr).map (·.add (l*sz))) (k-l) (cap-l)):=by
 by_cases e:cap=l
 ·have e1:k-l=0:=by omega
  have e2:cap-l=0:=by omega
  rw [if_pos e,e1,e2]
  exact .sl0 id b lim (l+o) sz _ (by rw [Nat.add_comm l o,← e];exact hlim)
 ·rw [if_neg e]
  simp only [Option.map_some,Addr.add_mk]
  have e3:B.base+(b+o*sz)+l*sz=B.base+(b+(l+o)*sz):=by rw [Nat.add_mul];omega
  rw [e3]
  have e4:l+o+(cap-l)=o+cap:=by omega
  have hx':(l+o+(k-l))*sz≤lim:=by
   rw [show l+o+(k-l)=o+k by omega]
   rcases h2 with h2 | h2
   ·exact Nat.le_trans (Nat.mul_le_mul_right _ (by omega)) hx
   ·exact h2.1
  refine .sl id b lim (l+o) (k-l) sz (cap-l) B hL h0 hx' hb (by omega) (by omega) (by rw [e4];exact hlim) (by rw [e4];exact hS)
theorem isStr_ok(h:TysOk P V.T){t:Nat}(hd:(V.T.at t).d.isStr=true):P.underlying t=some .string:=by
 cases hd':(V.T.at t).d <;> rw [hd'] at hd <;> simp [TyD.isStr] at hd
 exact(h t).str hd'
theorem alen_str{t len:Nat}{xs:List Int}(h:alen V t (.str xs) s=some len):(V.T.at t).d.isStr=true∧len=xs.length:=by
 simp only [alen] at h;split at h <;> try contradiction
 injection h with h;exact⟨by assumption,h.symm⟩
theorem alen_vs{t len l0 sz:Nat}{r:AV}(h:alen V t (.vs r l0 sz) s=some len):slTy V.T t sz=true∧len=slen r l0 sz:=by
 simp only [alen] at h;split at h <;> try contradiction
 injection h with h;exact⟨by assumption,h.symm⟩
theorem alen_sl{t len id b lim o l0 sz:Nat}(h:alen V t (.sl id b lim o l0 sz) s=some len):slTy V.T t sz=true∧len=l0:=by
 simp only [alen] at h;split at h <;> try contradiction
 injection h with h;exact⟨by assumption,h.symm⟩
theorem alen_own{t len id l0 sz:Nat}(h:alen V t (.own id l0 sz) s=some len):slTy V.T t sz=true∧olen s id l0 sz=some len:=by
 simp only [alen] at h;split at h <;> try contradiction
 exact⟨by assumption,h⟩
theorem olen_ok(hs:Sim U V.G w0 W0 ρ s a w){id l0 sz len:Nat}{u:Value}(hx:Rep w (Wr U ρ s.heap) ρ (.own id l0 sz) u)(h:olen s id l0 sz=some len):
  ∃ n r bb,lkH id s.heap=.cells n r bb∧r.size=n∧((len=0∧n=0∧ρ id=some none ∧ ∃ b,u=.slice b 0 0) ∨ ∃ cap L,ρ id=some (some L)∧u=.slice (some ⟨L.b,L.base,none⟩) len cap∧len*sz=L.n∧L.n=n∧len≤cap ∧
   L.base+cap*sz≤L.S∧0 < sz∧len < 4611686018427387904):=by
 unfold olen at h
 split at h <;> try contradiction
 rename_i n r bb hH
 injection h with h
 have hb:=hs.bl _ _ _ _ hH
 refine⟨n,r,bb,hH,hb.size,?_⟩
 cases hx with
 | own0 _ _ b hL=>
  have:r.size=0∧n=0:=by
   rcases hb.lies with ⟨_,h2⟩ | ⟨L,h1,_⟩
   ·exact⟨by rw [hb.size,h2],h2⟩
   ·rw [hL] at h1;cases h1
  rw [slen_zero this.1] at h
  exact .inl ⟨h.symm,this.2,hL,b,rfl⟩
 | own _ _ _ L0 cap L hL hn hkl hcap hS h0 hm=>
  obtain⟨hw,hsz,hLn,_⟩:=hs.cells hH hL
  rw [slen_eq (show r.size=L0*sz by omega) hkl] at h;subst h
  exact .inr ⟨cap,L,hL,rfl,hn,hLn,hcap,hS,h0,hm⟩
theorem run_sliceAt_all(h:TysOk P V.T){t:Nat}{W:Nat→Prop}{x:AV}{u:Value}{len:Nat}(hx:Rep w W ρ x u)(hl:alen V t x s=some len)(ha:sliceAll none none x=true):
  (Instr.sliceAt t u none none none).run P w=.ok u w:=by
 have sl:∀ b n c,slTy V.T t (match x with | .vs _ _ z=>z | .own _ _ z=>z | .sl _ _ _ _ _ z=>z | _=>0)=true→n≤c→(Instr.sliceAt t (.slice b n c) none none none).run P w=.ok (.slice b n c) w:=fun b n c ht hc=>by
  rw [run_sliceAt_sl h ht (.inl ⟨rfl,rfl⟩) (.inl ⟨rfl,rfl⟩) (by omega) (by omega) (by omega)]
  simp only [Int.toNat_zero,Int.toNat_natCast,Nat.zero_mul,Nat.sub_zero]
  congr 2
  split
  ·rfl
  ·cases b with
   | none=>rfl
   | some b=>simp [Addr.add]
 cases x <;> simp only [sliceAll,reduceCtorEq,Bool.false_eq_true] at ha
 ·cases hx
  have:=isStr_ok h (alen_str hl).1
  simp [Instr.sliceAt,Instr.slice,run_underlying' this,Instr.sliceBounds]
 ·have ht:=(alen_own hl).1
  cases hx with
  | own0=>exact sl _ _ _ ht (Nat.le_refl _)
  | own _ _ _ _ _ _ _ _ _ hcap=>exact sl _ _ _ ht hcap
 ·have ht:=(alen_sl hl).1
  cases hx with
  | sl0=>exact sl _ _ _ ht (Nat.le_refl _)
  | sl _ _ _ _ _ _ _ _ _ _ _ _ hcap=>exact sl _ _ _ ht hcap
 ·have ht:=(alen_vs hl).1
  cases hx with
  | vs0=>exact sl _ _ _ ht (Nat.zero_le _)
  | vs _ _ _ _ _ _ _ _ _ _ _ _ _ hcap=>exact sl _ _ _ ht hcap
theorem aslice_ok(h:TysOk P V.T)(hs:Sim U V.G w0 W0 ρ s a w){t:Nat}{x:AV}{u:Value}{lo hi:Option AV}{lo' hi':Option Value}
  (hx:Rep w (Wr U ρ s.heap) ρ x u) (hlo:OptRep w (Wr U ρ s.heap) ρ lo lo') (hhi:OptRep w (Wr U ρ s.heap) ρ hi hi')
  (ha:aslice V t x lo hi s=some (true,av,s')):s'=s ∧ ∃ v,(Instr.sliceAt t u lo' hi' none).run P w=.ok v w∧Rep w (Wr U ρ s.heap) ρ av v:=by
 unfold aslice at ha
 split at ha <;> try contradiction
 rename_i len hlen
 split at ha
 ·rename_i hall
  simp only [Option.some.injEq,Prod.mk.injEq,true_and] at ha
  obtain⟨rfl,rfl⟩:=ha
  have hn:lo=none∧hi=none:=by unfold sliceAll at hall;split at hall <;> simp_all
  obtain⟨rfl,rfl⟩:=hn
  have e1:lo'=none:=by rcases hlo with ⟨_,h⟩ | ⟨_,_,h,_⟩ <;> simp_all
  have e2:hi'=none:=by rcases hhi with ⟨_,h⟩ | ⟨_,_,h,_⟩ <;> simp_all
  subst e1;subst e2
  exact⟨rfl,u,run_sliceAt_all h hx hlen hall,hx⟩
 ·split at ha <;> try contradiction
  rename_i l k hl hk
  have hl:=low_ok hlo hl
  have hk:=high_ok hhi hk
  split at ha <;> try contradiction
  rename_i v hv
  simp only [Option.some.injEq,Prod.mk.injEq,Bool.and_eq_true,decide_eq_true_eq] at ha
  obtain⟨⟨⟨g0,g1⟩,g2⟩,rfl,rfl⟩:=ha
  refine⟨rfl,?_⟩
  have ek:(k.toNat:Int)=k:=Int.toNat_of_nonneg (by omega)
  split at hv
  ·rename_i id len0 sz _
   simp only [hiOk,decide_eq_true_eq] at g2
   obtain⟨ht,hol⟩:=alen_own hlen
   obtain⟨h0,_⟩:=slTy_ok h ht
   simp only [aslice2,Option.some.injEq] at hv
   subst hv
   rw [mz_eq]
   obtain⟨n,r,bb,hH,hsz,⟨rfl,_,_,b,rfl⟩ | ⟨cap,L,hL,rfl,hn,hLn,hcap,hS',_,hm⟩⟩:=olen_ok hs hx hol
   ·have e:k.toNat-l.toNat=0:=by omega
    exact⟨_,run_sliceAt_sl h ht hl hk g0 g1 (by omega) w,by rw [e,Nat.zero_sub];exact .sl0 _ _ _ _ _ _ (by simp)⟩
   ·have:=rep_sl_slice (w:=w) (W:=Wr U ρ s.heap) (sz:=sz) (b:=0) (lim:=len*sz) (o:=0) hL h0 (by simp) (by omega) hcap hm (by rw [Nat.zero_add];exact Nat.mul_le_mul_right _ hcap) (.inr (by rw [Nat.zero_add,Nat.zero_add];exact hS')) (show l.toNat≤k.toNat by omega) (by omega)
    rw [Nat.zero_mul,Nat.add_zero,Nat.add_zero] at this
    exact⟨_,run_sliceAt_sl h ht hl hk g0 g1 (by omega) w,this⟩
  ·rename_i hnot
   unfold aslice2 at hv
   split at hv <;> try contradiction
   ·rename_i xs
    simp only [hiOk,decide_eq_true_eq] at g2
    cases hx with | str b hm=>
    injection hv with hv;subst hv
    obtain⟨hd,hlen⟩:=alen_str hlen
    have hu:=isStr_ok h hd
    rw [bytesOf_len] at hlen;subst hlen
    refine⟨.string (b.extract l.toNat k.toNat),?_,?_⟩
    ·simp only [Instr.sliceAt,Instr.slice,Sem.run_bind,run_underlying' hu,Result.andThen_ok]
     have:=run_bounds (P:=P) (b:=false) (cap:=b.size) hl hk g0 g1 (by omega) w
     simp [this]
    ·have e:((bytesOf b).take k.toNat).drop l.toNat=bytesOf (b.extract l.toNat k.toNat):=by
      unfold bytesOf
      rw [Lib.extract_data,← List.map_take,← List.map_drop,List.drop_take]
     rw [e]
     exact .str _ (by simp;omega)
   ·rename_i r len0 sz
    simp only [hiOk,decide_eq_true_eq] at g2
    obtain⟨ht,hlen⟩:=alen_vs hlen
    replace hlen:=hlen.symm
    obtain⟨h0,_⟩:=slTy_ok h ht
    simp only [Option.map_eq_some_iff] at hv
    obtain⟨r',hp,rfl⟩:=hv
    obtain⟨b,cap,rfl,hcap⟩:∃ b cap,u=.slice b len cap∧len≤cap:=by
     cases hx with
     | vs0 _ _ cap b hr hn hl=>rw [slen_zeroV hn hl] at hlen;subst hlen;exact⟨b,cap,rfl,Nat.zero_le _⟩
     | vs _ _ _ L0 cap blk base vals hr _ hn hp0 hkl hcap hm hW hc hrep=>rw [slen_eqv hn hkl] at hlen;subst hlen;exact⟨_,cap,rfl,hcap⟩
    exact⟨_,run_sliceAt_sl h ht hl hk g0 g1 (by omega) w,rep_vs_slice hx h0 (by omega) (by omega) hp⟩
   ·exact absurd rfl (hnot _ _ _)
   ·rename_i id b lim o len0 sz _
    obtain⟨ht,hlen⟩:=alen_sl hlen
    subst hlen
    obtain⟨h0,_⟩:=slTy_ok h ht
    injection hv with hv;subst hv
    have g2:k≤len∨(sz=1∧k≤((lim-o:Nat):Int)∧k < 1073741824):=by
     unfold hiOk at g2
     split at g2
     ·rename_i heq
      injection heq with _ _ q1 q2 _ q3
      subst q1;subst q2;subst q3
      split at g2
      ·simp only [Bool.or_eq_true,Bool.and_eq_true,decide_eq_true_eq] at g2
       rcases g2 with g2 | g2
       ·exact .inl g2
       ·exact .inr ⟨rfl,g2⟩
      ·exact .inl (of_decide_eq_true g2)
     ·exact .inl (of_decide_eq_true g2)
    cases hx with
    | sl0 _ _ _ _ _ b' hl0=>
     have g2:k≤0:=by
      rcases g2 with g2 | ⟨rfl,g2,_⟩
      ·exact g2
      ·omega
     have e:k.toNat-l.toNat=0:=by omega
     exact⟨_,run_sliceAt_sl h ht hl hk g0 g1 (by omega) w,by rw [e,Nat.zero_sub];exact .sl0 _ _ _ _ _ _ (Nat.le_trans hl0 (Nat.mul_le_mul_right _ (by omega)))⟩
    | sl _ _ _ _ _ _ cap L hL _ hxx hb hcap hm hlim hS=>
     have g3:k.toNat≤len∨((o+k.toNat)*sz≤lim∧k.toNat≤cap∧k.toNat < 4611686018427387904):=by
      rcases g2 with g2 | ⟨rfl,g2,g4⟩
      ·exact .inl (by omega)
      ·by_cases hle:k.toNat≤len
       ·exact .inl hle
       ·exact .inr ⟨by omega,by omega,by omega⟩
     exact⟨_,run_sliceAt_sl h ht hl hk g0 g1 (by omega) w,rep_sl_slice hL h0 hxx hb hcap hm hlim hS (by omega) g3⟩
   rotate_left
   ·injection hv with hv;subst hv
    simp only [hiOk,decide_eq_true_eq] at g2
    cases hx with | ns=>
    simp only [alen] at hlen
    split at hlen <;> try contradiction
    rename_i e he
    split at hlen <;> try contradiction
    rename_i h00
    rw [Nat.blt_eq] at h00
    injection hlen with hlen;subst hlen
    have ek:k.toNat=0:=by omega
    have el:l.toNat=0:=by omega
    refine⟨.slice none 0 0,?_,.ns⟩
    have:=run_bounds (P:=P) (b:=true) (cap:=0) hl hk g0 g1 (by omega) w
    rw [ek,el] at this
    simp [Instr.sliceAt,Instr.slice,run_underlying' ((h t).slice e he),this,run_sizeOf' h h00]
   ·rename_i id b lim i m c rm _
    split at hv <;> try contradiction
    rename_i n e he
    split at hv <;> try contradiction
    rename_i o sz hix
    injection hv with hv;subst hv
    simp only [alen,he] at hlen
    split at hlen <;> try contradiction
    rename_i hc
    injection hlen with hlen;subst hlen
    rw [Bool.and_eq_true,Bool.and_eq_true,Nat.ble_eq,Nat.blt_eq,Nat.blt_eq,mz_eq] at hc
    obtain⟨hc1,hc2,hc3⟩:=hc
    simp only [hiOk,decide_eq_true_eq] at g2
    cases hx with | ptr _ _ _ _ _ _ _ L hL hi hxx hb h0=>
    have hp:sz=(V.T.at e).sz∧b+ix i m c=b+o*sz∧(o+n)*sz≤lim:=by
     unfold ixx at hix
     split at hix
     ·simp only [Option.some.injEq,Prod.mk.injEq] at hix
      obtain⟨rfl,rfl,rfl⟩:=hix
      refine⟨rfl,by simp [ix],?_⟩
      simp only [ix] at hxx;simp only [Nat.zero_add];omega
     ·split at hix <;> try contradiction
      rename_i hsz
      simp only [Option.some.injEq,Prod.mk.injEq] at hix
      obtain⟨rfl,rfl,rfl⟩:=hix
      rw [hsz] at hc1 hc2
      have e1:ix i m 0=i*m:=by unfold ix;split <;> simp_all
      rw [e1] at hxx
      exact⟨hsz.symm,by rw [e1];omega,by omega⟩
    obtain⟨rfl,e1,e2⟩:=hp
    have hu:=(h t).arr _ _ he
    rw [mz_eq,Nat.add_comm n o]
    have:=rep_sl_slice (w:=w) (W:=Wr U ρ s.heap) (id:=id) (b:=b) (cap:=n) (o:=o) (lim:=(o+n)*(V.T.at e).sz) hL hc2 (Nat.le_refl _) (by omega) (Nat.le_refl n) hc3 (Nat.le_refl _) (.inl (by omega)) (show l.toNat≤k.toNat by omega) (.inl (show k.toNat≤n by omega))
    refine⟨_,?_,this⟩
    have hb:=run_bounds (P:=P) (b:=false) hl hk g0 g1 (show k≤(n:Int) by omega) w
    simp only [Instr.sliceAt,Sem.run_bind,run_underlying' hu,Result.andThen_ok,Instr.sureAddr,Sem.run_pure,hb,run_sizeOf' h hc2,e1]
    congr 2
    split <;> rfl
theorem asliceX_ok(h:TysOk P V.T)(hs:Sim U V.G w0 W0 ρ s a w){t:Nat}{x hi mx:AV}{u hi' mx':Value}{lo:Option AV}{lo':Option Value}
  (hx:Rep w (Wr U ρ s.heap) ρ x u) (hlo:OptRep w (Wr U ρ s.heap) ρ lo lo') (hhi:Rep w (Wr U ρ s.heap) ρ hi hi') (hmx:Rep w (Wr U ρ s.heap) ρ mx mx')
  (ha:asliceX V t x lo hi mx s=some (true,av,s')):∃ v,(Instr.sliceAt t u lo' (some hi') (some mx')).run P w=.ok v w∧Sim U V.G w0 W0 ρ s' a w∧Rep w (Wr U ρ s'.heap) ρ av v:=by
 unfold asliceX at ha
 split at ha <;> try contradiction
 rename_i ht
 split at ha <;> try contradiction
 rename_i r len k h1 k' m hv e1 e2
 simp only [Option.some.injEq,Prod.mk.injEq,Bool.and_eq_true,Nat.blt_eq,decide_eq_true_eq] at ha
 obtain⟨⟨h0,rfl,rfl⟩,rfl,rfl⟩:=ha
 rw [intOf_rep hhi e1,intOf_rep hmx e2]
 have hlo':lo'=none:=by
  rcases hlo with ⟨_,e⟩ | ⟨y,v,e,_⟩
  ·exact e
  ·cases e
 subst hlo'
 obtain⟨g1,g2,_,hm,b,cap,rfl,g3,g4⟩:=view_cells h hs hx hv
 obtain⟨hf1,hf2⟩:=hs.freeze x
 rw [Nat.mul_one] at g2 g4
 rcases g4 with g4 | ⟨blk,base,vals,rfl,g5,g6⟩
 ·omega
 ·obtain⟨g0,e,q1,q2⟩:=slTy_ok h ht
  refine⟨.slice (some ⟨blk,base,none⟩) len len,?_,hf1,?_⟩
  ·have g3':(sizeOf e).run P w=.ok 1 w:=by rw [run_sizeOf' h (by omega) w,q2]
   have b1:=run_bound (P:=P) (k:=k') (i:=(len:Int)) (y:=cap) (code:=.slice3Acap) (by omega) (by omega) w
   have b2:=run_bound (P:=P) (k:=k) (i:=(len:Int)) (y:=len) (code:=.slice3B) (by omega) (by omega) w
   simp only [Int.toNat_natCast] at b1 b2
   have hne:¬ (len=0):=by omega
   simp [Instr.sliceAt,Instr.slice,Instr.sliceBounds,run_underlying' q1,b1,b2,g3',hne,Addr.add]
  ·exact .vs r 1 1 len len blk base vals g1 (by omega) (by omega) h0 (.inr ⟨rfl,.inl ⟨rfl,rfl⟩⟩) (Nat.le_refl _) hm g6 (fun j hj=>(g5 j (by omega)).1) (fun j hj=>hf2 _ _ (g5 j (by omega)).2)
theorem aslice3_ok(h:TysOk P V.T)(hs:Sim U V.G w0 W0 ρ s a w){t:Nat}{x lo hi mx:AV}{u lo' hi' mx':Value}
  (hx:Rep w (Wr U ρ s.heap) ρ x u) (hlo:Rep w (Wr U ρ s.heap) ρ lo lo') (hhi:Rep w (Wr U ρ s.heap) ρ hi hi') (hmx:Rep w (Wr U ρ s.heap) ρ mx mx')
  (ha:aslice3 V t x lo hi mx s=some (true,av,s')):s'=s∧av=.undef ∧ ∃ v,(Instr.sliceAt t u (some lo') (some hi') (some mx')).run P w=.ok v w:=by
 unfold aslice3 at ha
 split at ha <;> try contradiction
 rename_i id len0 sz
 split at ha <;> try contradiction
 rename_i len k1 l k2 hh k3 m hlen e1 e2 e3
 simp only [Option.some.injEq,Prod.mk.injEq,Bool.and_eq_true,decide_eq_true_eq] at ha
 obtain⟨⟨⟨g0,g1⟩,g2,g3⟩,rfl,rfl⟩:=ha
 rw [intOf_rep hlo e1,intOf_rep hhi e2,intOf_rep hmx e3]
 obtain⟨ht,hol⟩:=alen_own hlen
 obtain⟨h0,e,q1,q2⟩:=slTy_ok h ht
 obtain⟨b,cap,rfl,hcap⟩:∃ b cap,u=.slice b len cap∧len≤cap:=by
  obtain⟨n,r,bb,hH,hsz,⟨rfl,_,_,b,rfl⟩ | ⟨cap,L,hL,rfl,hn,hLn,hcap,hS',_,hm⟩⟩:=olen_ok hs hx hol
  ·exact⟨b,0,rfl,Nat.le_refl _⟩
  ·exact⟨_,cap,rfl,hcap⟩
 refine⟨rfl,rfl,?_⟩
 have g3':(sizeOf e).run P w=.ok sz w:=by rw [run_sizeOf' h (by omega) w,q2]
 have em:(m.toNat:Int)=m:=Int.toNat_of_nonneg (by omega)
 have eh:(hh.toNat:Int)=hh:=Int.toNat_of_nonneg (by omega)
 have b1:=run_bound (P:=P) (k:=k3) (i:=m) (y:=cap) (code:=.slice3Acap) (by omega) (by omega) w
 have b2:=run_bound (P:=P) (k:=k2) (i:=hh) (y:=m.toNat) (code:=.slice3B) (by omega) (by omega) w
 have b3:=run_bound (P:=P) (k:=k1) (i:=l) (y:=hh.toNat) (code:=.slice3C) (by omega) (by omega) w
 exact⟨_,by simp [Instr.sliceAt,Instr.slice,Instr.sliceBounds,run_underlying' q1,b1,b2,b3,g3'];rfl⟩
end Go.Am
end
section
/- Addresses of elements and fields; parts of aggregates. -/
namespace Go.Am
open Go
variable {P : Program} {V : Env} {U : Oth} {w0 : World} {W0 : Nat → Prop} {o : Oper} {ρ ρ' : Rho} {s s' : St} {a : Act} {w w' : World} {av : AV}
theorem run_indexAt_sl(h:TysOk P V.T){t sz:Nat}(ht:slTy V.T t sz=true){b o len cap:Nat}{k:IntKind}{j:Int}(h0:0≤j)(h1:j < len)(w:World):
  (Instr.indexAt t (.slice (some ⟨b,o,none⟩) len cap) (.int k j)).run P w=.ok (.pointer (some ⟨b,o+j.toNat*sz,none⟩)) w:=by
 obtain⟨g0,e,g1,g2⟩:=slTy_ok h ht
 have g3:(sizeOf e).run P w=.ok sz w:=by rw [run_sizeOf' h (by omega) w,g2]
 simp [Instr.indexAt,asIntOf,run_underlying' g1,h0,h1,g3,Addr.add_mk]
theorem run_indexAt_arr(h:TysOk P V.T){t n e:Nat}(ht:(V.T.at t).d=.arr n e)(he:0 < (V.T.at e).sz){b o:Nat}{k:IntKind}{j:Int}(h0:0≤j)(h1:j < n)(w:World):
  (Instr.indexAt t (.pointer (some ⟨b,o,none⟩)) (.int k j)).run P w=.ok (.pointer (some ⟨b,o+j.toNat*(V.T.at e).sz,none⟩)) w:=by
 simp [Instr.indexAt,Instr.sureAddr,asIntOf,run_underlying' ((h t).arr _ _ ht),h0,h1,run_sizeOf' h he,Addr.add_mk]
theorem ix_zero(i c:Nat):ix i 0 c=c:=rfl
theorem ix_elem{i m:Nat}(hm:0 < m)(c:Nat):ix i m c=i*m+c:=by
 unfold ix;split
 ·omega
 ·omega
 ·rfl
theorem ixx_ok{i m c j sz n rm lim p1 p2 p3:Nat}(hi:m=0→i=0)(h:ixx i m c j sz=some (p1,p2,p3))(hs:0 < sz)(hj:j < n)(hr:n*sz≤rm)(hx:ix i m c+rm≤lim):
  (p2=0→p1=0)∧ix p1 p2 p3=ix i m c+j*sz∧ix p1 p2 p3+sz≤lim:=by
 have e:(j+1)*sz≤n*sz:=Nat.mul_le_mul_right _ hj
 rw [Nat.add_mul,Nat.one_mul] at e
 unfold ixx at h
 split at h
 ·simp only [Option.some.injEq,Prod.mk.injEq] at h
  obtain⟨rfl,rfl,rfl⟩:=h
  rw [ix_zero] at hx
  rw [ix_elem hs,ix_zero]
  exact⟨fun h=>by omega,by omega,by omega⟩
 ·split at h <;> try contradiction
  simp only [Option.some.injEq,Prod.mk.injEq] at h
  obtain⟨rfl,rfl,rfl⟩:=h
  have hm:0 < m:=by rename_i hz _;exact Nat.pos_of_ne_zero hz
  rw [ix_elem hm] at hx
  rw [ix_elem hm]
  have e1:ix (j+i*m) 1 c=j+i*m+c:=rfl
  rw [e1]
  exact⟨fun h=>by omega,by omega,by omega⟩
theorem indexAddr_ok(h:TysOk P V.T)(hs:Sim U V.G w0 W0 ρ s a w){t:Nat}{x y j:Operand}(ho:o.op=.indexAddr t x j){i:Nat}(ha:aop V i o s=some (true,av,s')):
  s'=s ∧ ∃ v,(Instr.indexAt t (a.eval x) (a.eval j)).run P w=.ok v w∧Rep w (Wr U ρ s.heap) ρ av v:=by
 have hx:=hs.ev x
 have hj:=hs.ev j
 simp only [aop,ho] at ha
 split at ha <;> try contradiction
 rename_i k jj hjj
 have ej:=intOf_rep hj hjj
 rw [ej]
 generalize hax:ev V s x=ax at hx ha
 generalize a.eval x=u at hx ⊢
 split at ha <;> try contradiction
 ·rename_i r len sz
  split at ha <;> try contradiction
  rename_i ht
  simp only [Option.some.injEq,Prod.mk.injEq,Bool.and_eq_true,decide_eq_true_eq] at ha
  obtain⟨⟨g0,g1⟩,rfl,rfl⟩:=ha
  refine⟨rfl,?_⟩
  cases hx with
  | vs0 _ _ _ _ _ hn hl=>rw [slen_zeroV hn hl] at g1;omega
  | vs _ _ _ l cap blk base vals hr h0 hn hp hk hcap hm hW hc hrep=>
   rw [slen_eqv hn hk] at g1 ⊢
   rw [mz_eq]
   refine⟨_,run_indexAt_sl h ht g0 g1 w,?_⟩
   have e:(jj.toNat+1)*sz≤l*sz:=Nat.mul_le_mul_right _ (by omega)
   rw [Nat.add_mul,Nat.one_mul] at e
   have:=Rep.gp (w:=w) (W:=Wr U ρ s.heap) (ρ:=ρ) r (l*sz) jj.toNat sz 0 sz blk base vals hr hn (fun h=>by omega) (by rw [ix_elem h0];omega) h0 hW hc hrep
   rwa [ix_elem h0,Nat.add_zero] at this
 ·rename_i id len sz
  split at ha <;> try contradiction
  rename_i ht
  simp only [Option.map_eq_some_iff,Prod.mk.injEq,Bool.and_eq_true,decide_eq_true_eq] at ha
  obtain⟨L0,hol,⟨g0,g1⟩,rfl,rfl⟩:=ha
  refine⟨rfl,?_⟩
  obtain⟨n,r,bb,hH,hsz,⟨rfl,_,_,b,rfl⟩ | ⟨cap,L,hL,rfl,hn,hLn,hcap,_,h0,hm⟩⟩:=olen_ok hs hx hol
  ·omega
  ·refine⟨_,run_indexAt_sl h ht g0 g1 w,?_⟩
   have e:(jj.toNat+1)*sz≤L0*sz:=Nat.mul_le_mul_right _ (by omega)
   rw [Nat.add_mul,Nat.one_mul] at e
   unfold ptrAt
   split
   ·have:=Rep.ptr (w:=w) (W:=Wr U ρ s.heap) id (jj.toNat*sz) sz 0 0 0 sz L hL (fun _=>rfl) (by simp [ix]) (by omega) h0
    rw [mz_eq]
    simpa [ix] using this
   ·have:=Rep.ptr (w:=w) (W:=Wr U ρ s.heap) id 0 (L0*sz) jj.toNat sz 0 sz L hL (fun h=>by omega) (by rw [ix_elem h0];omega) (by omega) h0
    rw [mz_eq]
    rwa [ix_elem h0,Nat.add_zero,Nat.zero_add] at this
 ·rename_i id b lim o len sz
  split at ha <;> try contradiction
  rename_i ht
  simp only [Option.some.injEq,Prod.mk.injEq,Bool.and_eq_true,decide_eq_true_eq] at ha
  obtain⟨⟨g0,g1⟩,rfl,rfl⟩:=ha
  refine⟨rfl,?_⟩
  cases hx with
  | sl0=>omega
  | sl _ _ _ _ _ _ cap L hL h0 hxx hb hcap hm=>
   refine⟨_,run_indexAt_sl h ht g0 g1 w,?_⟩
   have e:(jj.toNat+o+1)*sz≤(o+len)*sz:=Nat.mul_le_mul_right _ (by omega)
   rw [Nat.add_mul _ 1,Nat.one_mul] at e
   have:=Rep.ptr (w:=w) (W:=Wr U ρ s.heap) id b lim (jj.toNat+o) sz 0 sz L hL (fun h=>by omega) (by rw [ix_elem h0];omega) (by omega) h0
   rw [ix_elem h0,Nat.add_zero] at this
   rwa [show L.base+(b+o*sz)+jj.toNat*sz=L.base+(b+(jj.toNat+o)*sz) by rw [Nat.add_mul];omega]
 ·rename_i id b l i m c rm
  split at ha <;> try contradiction
  rename_i n e he
  split at ha <;> try contradiction
  rename_i hc
  rw [Bool.and_eq_true,Nat.ble_eq,Nat.blt_eq,mz_eq] at hc
  simp only [Option.map_eq_some_iff,Prod.mk.injEq,Bool.and_eq_true,decide_eq_true_eq] at ha
  obtain⟨⟨p1,p2,p3⟩,hix,⟨g0,g1⟩,rfl,rfl⟩:=ha
  refine⟨rfl,?_⟩
  cases hx with | ptr _ _ _ _ _ _ _ L hL hi hxx hb h0=>
  obtain⟨q1,q2,q3⟩:=ixx_ok hi hix hc.2 (show jj.toNat < n by omega) hc.1 hxx
  refine⟨_,run_indexAt_arr h he hc.2 g0 g1 w,?_⟩
  have:=Rep.ptr (w:=w) (W:=Wr U ρ s.heap) id b l p1 p2 p3 (V.T.at e).sz L hL q1 q3 hb hc.2
  rw [q2] at this
  rwa [show L.base+(b+ix i m c)+jj.toNat*(V.T.at e).sz=L.base+(b+(ix i m c+jj.toNat*(V.T.at e).sz)) by omega]
 ·rename_i r k' i m c rm
  split at ha <;> try contradiction
  rename_i n e he
  split at ha <;> try contradiction
  rename_i hc
  rw [Bool.and_eq_true,Nat.ble_eq,Nat.blt_eq,mz_eq] at hc
  simp only [Option.map_eq_some_iff,Prod.mk.injEq,Bool.and_eq_true,decide_eq_true_eq] at ha
  obtain⟨⟨p1,p2,p3⟩,hix,⟨g0,g1⟩,rfl,rfl⟩:=ha
  refine⟨rfl,?_⟩
  cases hx with | gp _ _ _ _ _ _ blk base vals hr hn hi hxx h0 hW hcc hrep=>
  obtain⟨q1,q2,q3⟩:=ixx_ok hi hix hc.2 (show jj.toNat < n by omega) hc.1 hxx
  refine⟨_,run_indexAt_arr h he hc.2 g0 g1 w,?_⟩
  have:=Rep.gp (w:=w) (W:=Wr U ρ s.heap) (ρ:=ρ) r k' p1 p2 p3 (V.T.at e).sz blk base vals hr hn q1 q3 hc.2 hW hcc hrep
  rw [q2] at this
  rwa [show base+ix i m c+jj.toNat*(V.T.at e).sz=base+(ix i m c+jj.toNat*(V.T.at e).sz) by omega]
theorem addc_ok{W:Nat→Prop}{x:AV}{blk off:Nat}{d sz:Nat}(hx:Rep w W ρ x (.pointer (some ⟨blk,off,none⟩)))(ha:addc x d sz=some av):0 < sz∧Rep w W ρ av (.pointer (some ⟨blk,off+d,none⟩)):=by
 unfold addc at ha
 split at ha <;> try contradiction
 ·rename_i id b l i m c rm
  split at ha <;> try contradiction
  rename_i hc
  rw [Bool.and_eq_true,Nat.ble_eq,Nat.blt_eq] at hc
  cases hx with | ptr _ _ _ _ _ _ _ L hL hi hxx hb h0=>
  split at ha
  ·rw [ix_zero] at hxx
   rw [ix_zero]
   split at ha
   ·injection ha with ha;subst ha
    have:=Rep.ptr (w:=w) (W:=W) id (b+d) sz i 0 0 sz L hL hi (by simp [ix]) (by omega) hc.2
    simp only [ix,Nat.add_zero] at this
    exact⟨hc.2,by rwa [show L.base+(b+0)+d=L.base+(b+d) by omega]⟩
   ·injection ha with ha;subst ha
    have:=Rep.ptr (w:=w) (W:=W) id b l i 0 (c+d) sz L hL hi (by rw [ix_zero];omega) hb hc.2
    rw [ix_zero] at this
    exact⟨hc.2,by rwa [Nat.add_assoc,Nat.add_assoc]⟩
  ·injection ha with ha;subst ha
   rename_i hm
   have hm':0 < m:=Nat.pos_of_ne_zero hm
   rw [ix_elem hm'] at hxx
   rw [ix_elem hm']
   have:=Rep.ptr (w:=w) (W:=W) id b l i m (c+d) sz L hL hi (by rw [ix_elem hm'];omega) hb hc.2
   rw [ix_elem hm'] at this
   exact⟨hc.2,by rwa [show L.base+(b+(i*m+c))+d=L.base+(b+(i*m+(c+d))) by omega]⟩
 ·rename_i r n i m c rm
  split at ha <;> try contradiction
  rename_i hc
  rw [Bool.and_eq_true,Nat.ble_eq,Nat.blt_eq] at hc
  injection ha with ha;subst ha
  cases hx with | gp _ _ _ _ _ _ _ base vals hr hn hi hxx h0 hW hcc hrep=>
  have e:ix i m (c+d)=ix i m c+d:=by rw [ix_add];omega
  have:=Rep.gp (w:=w) (W:=W) (ρ:=ρ) r n i m (c+d) sz blk base vals hr hn hi (by omega) hc.2 hW hcc hrep
  rw [e] at this
  exact⟨hc.2,by rwa [Nat.add_assoc]⟩
theorem struct_field(h:TysOk P V.T){t f ft off:Nat}{fs:List (Nat×Nat)}(ht:(V.T.at t).d=.struct fs)(hf:fs[f]?=some (ft,off)):
  ∃ (arr:Array Field) (fd:Field),P.underlying t=some (.struct arr)∧arr[f]?=some fd∧fd.type=ft∧fd.offset=off:=by
 obtain⟨arr,g1,g2,_⟩:=(h t).struct _ ht
 rw [← g2,List.getElem?_map,Option.map_eq_some_iff] at hf
 obtain⟨fd,q1,q2⟩:=hf
 simp only [Prod.mk.injEq] at q2
 exact⟨arr,fd,g1,by simpa using q1,q2.1,q2.2⟩
theorem fieldAddr_ok(h:TysOk P V.T){W:Nat→Prop}{t f ft off:Nat}{fs:List (Nat×Nat)}{x:AV}{u:Value}(ht:(V.T.at t).d=.struct fs)(hf:fs[f]?=some (ft,off))(hx:Rep w W ρ x u)(ha:addc x off (V.T.at ft).sz=some av):
  ∃ v,(Instr.fieldAt t u f).run P w=.ok v w∧Rep w W ρ av v:=by
 obtain⟨blk,o,rfl⟩:∃ blk o,u=.pointer (some ⟨blk,o,none⟩):=by
  unfold addc at ha
  split at ha <;> try contradiction
  all_goals cases hx;exact⟨_,_,rfl⟩
 obtain⟨h0,hr⟩:=addc_ok hx ha
 obtain⟨arr,fd,g1,g2,g3,g4⟩:=struct_field h ht hf
 refine⟨_,?_,hr⟩
 simp only [Instr.fieldAt,Sem.run_bind,run_underlying' g1,Result.andThen_ok,g2,Instr.sureAddr,Sem.run_pure,fieldPlace,g3,run_sizeOf' h h0]
 rw [if_neg (by omega)]
 simp [Addr.add_mk,g4]
theorem part_ok(h:TysOk P V.T){W:Nat→Prop}{r:AV}{n t off:Nat}{cs:Array Value}(hx:Rep w W ρ (.agg n r) (.agg cs))(hb:off+(V.T.at t).sz≤n)(ha:getv (V.T.at t).d.isAgg r n off (V.T.at t).sz=some av):
  ∃ v,(part t cs off).run P w=.ok v w∧Rep w W ρ av v:=by
 cases hx with | agg _ _ _ hw hr hc hrep=>
 unfold getv at ha
 split at ha
 ·rename_i hagg
  split at ha <;> try contradiction
  rename_i h0
  rw [Nat.blt_eq] at h0
  simp only [Option.map_eq_some_iff] at ha
  obtain⟨r',g1,rfl⟩:=ha
  have hp:=rgetN_spec r n off _ 0 0 0 _ r' hw hr (fun _=>rfl) (by simp [ix]) hb h0 g1
  have e0:off+ix 0 0 0=off:=rfl
  rw [e0] at hp
  refine⟨.agg (cs.extract off (off+(V.T.at t).sz)),by simp [part,run_isAgg_many h hagg,run_sizeOf' h h0],.agg _ r' _ hp.wf hp.size (by simp;omega) fun j hj=>?_⟩
  rw [hp.cells j hj]
  have:=hrep (off+j) (by omega)
  rwa [show(cs.extract off (off+(V.T.at t).sz)).getD j Go.undef=cs.getD (off+j) Go.undef by
   simp [Array.getD_eq_getD_getElem?,Array.getElem?_extract];rw [if_pos (by omega)]]
 ·rename_i hagg
  split at ha <;> try contradiction
  rename_i h1
  rw [Nat.beq_eq] at h1
  injection ha with ha
  have e1:cs[off]?=some (cs.getD off Go.undef):=by rw [Array.getD_eq_getD_getElem?,Array.getElem?_eq_getElem (by omega)];rfl
  refine⟨cs.getD off Go.undef,by simp only [part,Sem.run_bind,run_isAgg_one h (by simpa using hagg) h1,Result.andThen_ok,e1];rfl,?_⟩
  rcases rget_spec r off (V.T.at t).sz 0 0 0 hw (by simp [ix];omega) (by omega) with e | e
  ·rw [← ha,e];exact hrep off (by omega)
  ·rw [← ha,e];exact .undef _
end Go.Am
end
section
/- Elements of values; literals of structs and arrays. -/
namespace Go.Am
open Go
variable {P : Program} {V : Env} {U : Oth} {w0 : World} {W0 : Nat → Prop} {o : Oper} {ρ ρ' : Rho} {s s' : St} {a : Act} {w w' : World} {av : AV}
theorem part_many(h:TysOk P V.T){W:Nat→Prop}{r r':AV}{n t off:Nat}{cs:Array Value}(hagg:(V.T.at t).d.isAgg=true)(h0:0 < (V.T.at t).sz)(hx:Rep w W ρ (.agg n r) (.agg cs))(hb:off+(V.T.at t).sz≤n)(hp:Parts r r' off (V.T.at t).sz):
  ∃ v,(part t cs off).run P w=.ok v w∧Rep w W ρ (.agg (V.T.at t).sz r') v:=by
 cases hx with | agg _ _ _ hw hr hc hrep=>
 refine⟨.agg (cs.extract off (off+(V.T.at t).sz)),by simp [part,run_isAgg_many h hagg,run_sizeOf' h h0],.agg _ r' _ hp.wf hp.size (by simp;omega) fun j hj=>?_⟩
 rw [hp.cells j hj]
 have:=hrep (off+j) (by omega)
 rwa [show(cs.extract off (off+(V.T.at t).sz)).getD j Go.undef=cs.getD (off+j) Go.undef by
  simp [Array.getD_eq_getD_getElem?,Array.getElem?_extract];rw [if_pos (by omega)]]
theorem part_one(h:TysOk P V.T){W:Nat→Prop}{r:AV}{n t off:Nat}{cs:Array Value}(hagg:(V.T.at t).d.isAgg=false)(h1:(V.T.at t).sz=1)(hx:Rep w W ρ (.agg n r) (.agg cs))(hb:off < n):
  ∃ v,(part t cs off).run P w=.ok v w∧Rep w W ρ (r.cell off) v:=by
 cases hx with | agg _ _ _ hw hr hc hrep=>
 have e1:cs[off]?=some (cs.getD off Go.undef):=by rw [Array.getD_eq_getD_getElem?,Array.getElem?_eq_getElem (by omega)];rfl
 exact⟨cs.getD off Go.undef,by simp only [part,Sem.run_bind,run_isAgg_one h hagg h1,Result.andThen_ok,e1];rfl,hrep off hb⟩
theorem getD_bytes(s:ByteArray)(j:Nat)(h:j < s.size):(bytesOf s).getD j 0=(s[j].toNat:Int):=by
 have h1:j < s.data.toList.length:=by simpa using h
 simp only [bytesOf,List.getD_eq_getElem?_getD,List.getElem?_map,List.getElem?_eq_getElem h1,Option.map_some,Option.getD_some]
 rfl
theorem index_ok(h:TysOk P V.T)(hs:Sim U V.G w0 W0 ρ s a w){t:Nat}{x j:Operand}(ho:o.op=.index t x j){i:Nat}(ha:aop V i o s=some (true,av,s')):
  s'=s ∧ ∃ v,(Instr.index t (a.eval x) (a.eval j)).run P w=.ok v w∧Rep w (Wr U ρ s.heap) ρ av v:=by
 have hx:=hs.ev x
 have hj:=hs.ev j
 simp only [aop,ho] at ha
 split at ha <;> try contradiction
 ·rename_i k jj xs hjj hxx
  have ej:=intOf_rep hj hjj
  rw [ej]
  rw [hxx] at hx
  generalize a.eval x=u at hx ⊢
  split at ha <;> try contradiction
  rename_i hd
  have hu:=isStr_ok h hd
  simp only [Option.some.injEq,Prod.mk.injEq,Bool.and_eq_true,decide_eq_true_eq] at ha
  obtain⟨⟨g0,g1⟩,rfl,rfl⟩:=ha
  cases hx with | str b hm=>
  rw [bytesOf_len] at g1
  have hlt:jj.toNat < b.size:=by omega
  refine⟨rfl,.int .u8 b[jj.toNat].toNat,?_,?_⟩
  ·simp only [Instr.index,Sem.run_bind,asIntOf,Sem.run_pure,Result.andThen_ok,run_underlying' hu,if_pos g0]
   rw [show b[jj.toNat]?=some b[jj.toNat] from getElem?_pos b jj.toNat hlt]
   rfl
  ·rw [getD_bytes b _ hlt]
   have:=UInt8.toNat_lt b[jj.toNat]
   exact .int .u8 _ ⟨by show(0:Int)≤_;omega,by show(_:Int)≤255;omega⟩
 ·rename_i k jj n r hjj hxx
  have ej:=intOf_rep hj hjj
  rw [ej]
  rw [hxx] at hx
  generalize a.eval x=u at hx ⊢
  split at ha <;> try contradiction
  rename_i len e he
  split at ha <;> try contradiction
  rename_i hc
  rw [Bool.and_eq_true,Nat.beq_eq,Nat.blt_eq,mz_eq] at hc
  obtain⟨hn,h0⟩:=hc
  have hu:=(h t).arr _ _ he
  obtain⟨cs,rfl⟩:∃ cs,u=.agg cs:=by cases hx;exact⟨_,rfl⟩
  have hx':=hx
  cases hx' with | agg _ _ _ hw hr hcs hrep=>
  split at ha
  ·rename_i hagg
   simp only [Option.map_eq_some_iff,Prod.mk.injEq,Bool.and_eq_true,decide_eq_true_eq] at ha
   obtain⟨r',g3,⟨g0,g1⟩,rfl,rfl⟩:=ha
   have e1:(jj.toNat+1)*(V.T.at e).sz≤len*(V.T.at e).sz:=Nat.mul_le_mul_right _ (by omega)
   rw [Nat.add_mul,Nat.one_mul] at e1
   have hp:=rgetN_spec r n 0 n jj.toNat (V.T.at e).sz 0 _ r' hw hr (fun h=>by omega) (by rw [ix_elem h0];omega) (by omega) h0 g3
   rw [ix_elem h0,Nat.zero_add,Nat.add_zero] at hp
   obtain⟨v,q1,q2⟩:=part_many h hagg h0 hx (by omega) hp
   refine⟨rfl,v,?_,q2⟩
   simp only [Instr.index,Sem.run_bind,asIntOf,Sem.run_pure,Result.andThen_ok,run_underlying' hu,if_pos (And.intro g0 g1),run_sizeOf' h h0,q1]
  ·rename_i hagg
   split at ha <;> try contradiction
   rename_i h1
   rw [Nat.beq_eq] at h1
   simp only [Option.some.injEq,Prod.mk.injEq,Bool.and_eq_true,decide_eq_true_eq] at ha
   obtain⟨⟨g0,g1⟩,rfl,rfl⟩:=ha
   rw [h1,Nat.mul_one] at hn
   have e2:ix jj.toNat 1 0=jj.toNat:=rfl
   obtain⟨v,q1,q2⟩:=part_one (off:=jj.toNat) h (by simpa using hagg) h1 hx (by omega)
   refine⟨rfl,v,?_,?_⟩
   ·simp only [Instr.index,Sem.run_bind,asIntOf,Sem.run_pure,Result.andThen_ok,run_underlying' hu,if_pos (And.intro g0 g1),run_sizeOf' h h0,h1,Nat.mul_one,q1]
   ·rcases rget_spec r 0 n jj.toNat 1 0 hw (by rw [e2];omega) (by omega) with q | q
    ·rw [q,e2,Nat.zero_add];exact q2
    ·rw [q];exact .undef _
theorem foldl_set(vs:List Value):∀ (k off:Nat) (cs:Array Value),off+k+vs.length≤cs.size →
  ((vs.zipIdx k).foldl (fun cs (x:Value×Nat)=>cs.setIfInBounds (off+x.2) x.1) cs).size=cs.size ∧
  ∀ j,((vs.zipIdx k).foldl (fun cs (x:Value×Nat)=>cs.setIfInBounds (off+x.2) x.1) cs).getD j Go.undef=if off+k≤j∧j < off+k+vs.length then vs.getD (j-(off+k)) Go.undef else cs.getD j Go.undef:=by
 induction vs with
 | nil=>intro k off cs h;exact⟨rfl,fun j=>by simp;omega⟩
 | cons v vs ih=>
  intro k off cs h
  simp only [List.length_cons] at h
  simp only [List.zipIdx_cons,List.foldl_cons]
  obtain⟨h1,h2⟩:=ih (k+1) off (cs.setIfInBounds (off+k) v) (by simp;omega)
  refine⟨by rw [h1];simp,fun j=>?_⟩
  rw [h2 j]
  simp only [List.length_cons]
  by_cases e:j=off+k
  ·subst e
   rw [if_neg (by omega),if_pos (by omega)]
   simp [Array.getD_eq_getD_getElem?,show off+k < cs.size by omega]
  ·by_cases e2:off+k+1≤j∧j < off+k+1+vs.length
   ·rw [if_pos (by omega),if_pos (by omega),show j-(off+k)=(j-(off+(k+1)))+1 by omega]
    rfl
   ·rw [if_neg (by omega),if_neg (by omega)]
    simp [Array.getD_eq_getD_getElem?,Array.getElem?_setIfInBounds,Ne.symm e]
theorem zip_fold(vs cs:Array Value)(off:Nat):vs.zipIdx.foldl (fun cs (c,j)=>cs.setIfInBounds (off+j) c) cs=(vs.toList.zipIdx 0).foldl (fun cs (x:Value×Nat)=>cs.setIfInBounds (off+x.2) x.1) cs:=by
 rw [← Array.foldl_toList,Array.toList_zipIdx]
structure PutOk (w:World) (W:Nat→Prop) (ρ:Rho) (n:Nat) (r':AV) (v:Value) (off m:Nat) (cs:Array Value):Prop where
 size:v.cells.size=m
 fits:off+m≤n
 rep:Rep w W ρ (.agg n r') (.agg ((v.cells.toList.zipIdx 0).foldl (fun cs (x:Value×Nat)=>cs.setIfInBounds (off+x.2) x.1) cs))
theorem put_sets{W:Nat→Prop}{r r' x:AV}{n off m:Nat}{v:Value}{vs cs:Array Value}(hv:v.cells=vs)(hx:Rep w W ρ (.agg n r) (.agg cs))(hy:Rep w W ρ (.agg m x) (.agg vs))(hset:SetsN r r' off m x)(hb:off+m≤n):
  PutOk w W ρ n r' v off m cs:=by
 cases hx with | agg _ _ _ hw hr hc hrep=>
 cases hy with | agg _ _ _ hxw hxs hvs hxrep=>
 obtain⟨h1,h2⟩:=foldl_set vs.toList 0 off cs (by simp;omega)
 refine⟨by rw [hv];exact hvs,hb,.agg _ _ _ hset.wf (hset.size.trans hr) (by rw [hv,h1];exact hc) fun j hj=>?_⟩
 rw [hv,h2 j]
 simp only [Nat.add_zero,Array.length_toList]
 by_cases hin:off≤j∧j < off+m
 ·rw [if_pos (by omega)]
  have e:=hset.same (j-off) (by omega)
  rw [show off+(j-off)=j by omega] at e
  rw [e]
  have:=hxrep (j-off) (by omega)
  simpa [Array.getD_eq_getD_getElem?,List.getD_eq_getElem?_getD] using this
 ·rw [if_neg (by omega),hset.other j (by omega) (by omega)]
  exact hrep j hj
theorem putv_ok{W:Nat→Prop}{r r' x:AV}{n off m:Nat}{v:Value}{cs:Array Value}(hx:Rep w W ρ (.agg n r) (.agg cs))(hy:Rep w W ρ x v)(hb:off+m≤n)(h:putv r n off m x=some r'):
  PutOk w W ρ n r' v off m cs:=by
 have hx':=hx
 cases hx' with | agg _ _ _ hw hr hc hrep=>
 unfold putv at h
 split at h
 ·rename_i n' y
  split at h <;> try contradiction
  rename_i hc
  rw [Bool.and_eq_true,Nat.beq_eq,Nat.blt_eq] at hc
  obtain⟨rfl,h0⟩:=hc
  have hy':=hy
  cases hy' with | agg _ _ vs hyw hys hvs hyrep=>
  have hset:=rsetN_spec r n off m 0 0 0 m y r' hw hr (fun _=>rfl) (by simp [ix]) hb h0 hyw hys h
  have e0:off+ix 0 0 0=off:=rfl
  rw [e0] at hset
  exact put_sets rfl hx hy hset hb
 ·split at h <;> try contradiction
  rename_i hc
  rw [Bool.and_eq_true,Nat.beq_eq] at hc
  obtain⟨hsc,rfl⟩:=hc
  have hset:=(rset_spec r off 1 0 0 0 x r' hw hsc (by simp [ix]) (by omega) h).setsN
  have e0:off+ix 0 0 0=off:=rfl
  rw [e0] at hset
  exact put_sets (hy.one hsc).1 hx (rep_one hy hsc) hset hb
end Go.Am
end
section
/- Literals; new variables. -/
namespace Go.Am
open Go
variable {P : Program} {V : Env} {U : Oth} {w0 : World} {W0 : Nat → Prop} {o : Oper} {ρ ρ' : Rho} {s s' : St} {a : Act} {w w' : World} {av : AV}
theorem fill_step{place:Nat→Option (Nat×Nat)}{cs:Array Value}{i off size:Nat}{v:Value}{rest:List (Nat×Value)}(hp:place i=some (off,size))(h1:v.cells.size=size)(h2:off+v.cells.size≤cs.size):
  Instr.fill place cs ((i,v) :: rest)=Instr.fill place ((v.cells.toList.zipIdx 0).foldl (fun cs (x:Value×Nat)=>cs.setIfInBounds (off+x.2) x.1) cs) rest:=by
 rw [Instr.fill,hp]
 simp only []
 rw [if_neg (by simp;omega),zip_fold]
def PartsRep(w:World)(W:Nat→Prop)(ρ:Rho):List (Nat×AV)→List (Nat×Value)→Prop
 | [],[]=>True
 | (i,x) :: l,(j,v) :: l'=>i=j∧Rep w W ρ x v∧PartsRep w W ρ l l'
 | _,_=>False
theorem fillS_ok{W:Nat→Prop}{T:Tys}{fs:List (Nat×Nat)}{k:Nat}{place:Nat→Option (Nat×Nat)}(hpl:∀ f t off,fs[f]?=some (t,off)→place f=some (off,(T.at t).sz)):
  ∀ (l:List (Nat×AV)) (l':List (Nat×Value)) (r r':AV) (cs:Array Value),PartsRep w W ρ l l'→Rep w W ρ (.agg k r) (.agg cs)→fillS T fs k r l=some r' →
   ∃ cs',Instr.fill place cs l'=some cs'∧Rep w W ρ (.agg k r') (.agg cs')
 | [],[],r,r',cs,_,hx,h=>by simp [fillS] at h;subst h;exact⟨cs,rfl,hx⟩
 | [],_ :: _,_,_,_,hp,_,_=>hp.elim
 | _ :: _,[],_,_,_,hp,_,_=>hp.elim
 | (f,x) :: l,(f',v) :: l',r,r',cs,hp,hx,h=>by
  obtain⟨rfl,hy,hp⟩:=hp
  simp only [fillS] at h
  split at h <;> try contradiction
  rename_i t off hf
  split at h <;> try contradiction
  rename_i hb
  rw [Nat.ble_eq] at hb
  split at h <;> try contradiction
  rename_i r1 h1
  have hput:=putv_ok hx hy hb h1
  have hcs:cs.size=k:=by cases hx;assumption
  obtain⟨cs',g1,g2⟩:=fillS_ok hpl l l' r1 r' _ hp hput.rep h
  exact⟨cs',by rw [fill_step (hpl f t off hf) hput.size (by rw [hput.size];omega)];exact g1,g2⟩
theorem fillR_ok{W:Nat→Prop}{k sz:Nat}:
  ∀ (l:List (Nat×AV)) (l':List (Nat×Value)) (r r':AV) (cs:Array Value),PartsRep w W ρ l l'→Rep w W ρ (.agg k r) (.agg cs)→fillR k sz r l=some r' →
   ∃ cs',Instr.fill (fun i=>some (i*sz,sz)) cs l'=some cs'∧Rep w W ρ (.agg k r') (.agg cs')
 | [],[],r,r',cs,_,hx,h=>by simp [fillR] at h;subst h;exact⟨cs,rfl,hx⟩
 | [],_ :: _,_,_,_,hp,_,_=>hp.elim
 | _ :: _,[],_,_,_,hp,_,_=>hp.elim
 | (f,x) :: l,(f',v) :: l',r,r',cs,hp,hx,h=>by
  obtain⟨rfl,hy,hp⟩:=hp
  simp only [fillR] at h
  split at h <;> try contradiction
  rename_i hb
  rw [Nat.ble_eq] at hb
  split at h <;> try contradiction
  rename_i r1 h1
  have hput:=putv_ok hx hy hb h1
  have hcs:cs.size=k:=by cases hx;assumption
  obtain⟨cs',g1,g2⟩:=fillR_ok l l' r1 r' _ hp hput.rep h
  exact⟨cs',by rw [fill_step rfl hput.size (by rw [hput.size];omega)];exact g1,g2⟩
theorem partsRep_map{W:Nat→Prop}(f:Operand→AV)(g:Operand→Value)(h:∀ x,Rep w W ρ (f x) (g x)):∀ (l:List (Nat×Operand)),PartsRep w W ρ (l.map fun p=>(p.1,f p.2)) (l.map fun p=>(p.1,g p.2))
 | []=>trivial
 | p :: l=>⟨rfl,h _,partsRep_map f g h l⟩
theorem run_zeroValue'{t:TypeId}{i:TypeInfo}{z:Value}(h:P.info? t=some i)(hz:i.zero=some z)(w:World):(zeroValue t).run P w=.ok z w:=by
 simp [zeroValue,typeInfo,program,Sem.run,h,hz]
theorem zero_ok(h:TysOk P V.T){t:Nat}{r:AV}(hz:zvar V.T 16 t=some r)(w:World)(W:Nat→Prop)(ρ:Rho):
  0 < (V.T.at t).sz ∧ ∃ z,(zeroValue t).run P w=.ok z w∧z.cells.size=(V.T.at t).sz∧Rep w W ρ (.agg (V.T.at t).sz r) (.agg z.cells):=by
 obtain⟨h0,hw,hs,i,z,g1,g2,g3,g4⟩:=(h t).zero r hz
 exact⟨h0,z,run_zeroValue' g1 g2 w,g3,.agg _ _ _ hw hs g3 fun j hj=>concZ_rep (g4 j hj) _ _ _⟩
theorem zeros_ok(h:TysOk P V.T){e n:Nat}{r:AV}(hz:zrow V.T 8 e n=some r)(w:World)(W:Nat→Prop)(ρ:Rho):
  0 < (V.T.at e).sz∧r.leafB=true ∧ ∃ z,(zeroValue e).run P w=.ok z w∧z.cells.size=(V.T.at e).sz∧Rep w W ρ (.agg (n*(V.T.at e).sz) r) (.agg ((Array.range (n*(V.T.at e).sz)).map (z.cells[· % z.cells.size]!))):=by
 obtain⟨h0,hl,hs,i,z,g1,g2,g3,g4,g5⟩:=h.zrow hz
 refine⟨h0,hl,z,run_zeroValue' g1 g3 w,g4,.agg _ _ _ (wf_leaf hl) hs (by simp) fun j hj=>?_⟩
 have:=g5 j hj w W ρ
 have e1:j%(V.T.at e).sz < z.cells.size:=by rw [g4];exact Nat.mod_lt _ h0
 rwa [show((Array.range (n*(V.T.at e).sz)).map (z.cells[· % z.cells.size]!)).getD j Go.undef=z.cells.getD (j%(V.T.at e).sz) Go.undef by
  rw [Array.getD_eq_getD_getElem?,Array.getElem?_map,Array.getElem?_range,if_pos hj]
  simp only [Option.map_some,Option.getD_some]
  rw [g4,getElem!_pos z.cells _ e1,Array.getD_eq_getD_getElem?,Array.getElem?_eq_getElem e1];rfl]
theorem run_mapM{α β:Type}(f:α→Sem β)(g:α→β):∀ (l:List α),(∀ x∈l,∀ w,(f x).run P w=.ok (g x) w) → ∀ w,(l.mapM f).run P w=.ok (l.map g) w
 | [],_,w=>by simp
 | x :: l,h,w=>by
  rw [List.mapM_cons]
  simp only [Sem.run_bind,h x (by simp) w,Result.andThen_ok,run_mapM f g l (fun y hy=>h y (by simp [hy])) w,Sem.run_pure,List.map_cons]
theorem build_ok(h:TysOk P V.T)(hs:Sim U V.G w0 W0 ρ s a w){t:Nat}{parts:Array (Nat×Operand)}(ho:o.op=.build t parts){i:Nat}(ha:aop V i o s=some (true,av,s')):
  s'=s ∧ ∃ v,(Instr.build t (parts.map fun (i,x)=>(i,a.eval x))).run P w=.ok v w∧Rep w (Wr U ρ s.heap) ρ av v:=by
 simp only [aop,ho] at ha
 have hparts:=partsRep_map (w:=w) (W:=Wr U ρ s.heap) (ρ:=ρ) (ev V s) a.eval (fun x=>hs.ev x) parts.toList
 have hlist:(parts.map fun (i,x)=>(i,a.eval x)).toList=parts.toList.map fun p=>(p.1,a.eval p.2):=by simp
 split at ha <;> try contradiction
 ·rename_i fs hfs
  split at ha <;> try contradiction
  rename_i z hz
  split at hz <;> try contradiction
  rename_i hall
  simp only [Option.map_eq_some_iff,Prod.mk.injEq,true_and] at ha
  obtain⟨r,h1,rfl,rfl⟩:=ha
  obtain⟨h0,zv,g1,g2,g3⟩:=zero_ok h hz w (Wr U ρ s.heap) ρ
  obtain⟨arr,u1,u2,_⟩:=(h t).struct _ hfs
  have hpos:∀ f∈arr.toList,0 < (V.T.at f.type).sz:=fun f hf=>by
   rw [List.all_eq_true] at hall
   have:=hall (f.type,f.offset) (by rw [← u2];exact List.mem_map_of_mem hf)
   simpa [Nat.blt_eq] using this
  have hm:(arr.mapM fun f=>do pure (f.offset,← sizeOf f.type):Sem (Array (Nat×Nat))).run P w=.ok (arr.map fun f=>(f.offset,(V.T.at f.type).sz)) w:=by
   rw [Array.mapM_eq_mapM_toList]
   simp only [Sem.run_map]
   rw [run_mapM _ (fun f=>(f.offset,(V.T.at f.type).sz)) arr.toList (fun f hf w=>by simp [run_sizeOf' h (hpos f hf)])]
   simp only [Result.andThen_ok]
   exact congrArg (fun x=>Result.ok x w) (Array.ext' (by simp))
  obtain⟨cs',q1,q2⟩:=fillS_ok (place:=fun i=>(arr.map fun f=>(f.offset,(V.T.at f.type).sz))[i]?) (fun f t off hf=>by
   rw [← u2,List.getElem?_map,Option.map_eq_some_iff] at hf
   obtain⟨fd,q1,q2⟩:=hf
   simp only [Prod.mk.injEq] at q2
   obtain⟨rfl,rfl⟩:=q2
   simp [show arr[f]?=some fd by simpa using q1]) _ _ _ _ _ hparts g3 h1
  refine⟨rfl,.agg cs',?_,q2⟩
  simp only [Instr.build,Sem.run_bind,g1,Result.andThen_ok,run_underlying' u1,hm,hlist,q1,Sem.run_pure]
 ·rename_i n e he
  split at ha <;> try contradiction
  rename_i z hz
  split at ha <;> try contradiction
  rename_i hsz
  rw [Nat.beq_eq] at hsz
  simp only [Option.map_eq_some_iff,Prod.mk.injEq,true_and] at ha
  obtain⟨r,h1,rfl,rfl⟩:=ha
  obtain⟨h0,zv,g1,g2,g3⟩:=zero_ok h hz w (Wr U ρ s.heap) ρ
  have he0:0 < (V.T.at e).sz:=by
   rcases Nat.eq_zero_or_pos (V.T.at e).sz with q | q
   ·rw [q,Nat.mul_zero] at hsz;omega
   ·exact q
  rw [hsz] at g3
  obtain⟨cs',q1,q2⟩:=fillR_ok _ _ _ _ _ hparts g3 h1
  refine⟨rfl,.agg cs',?_,by rw [hsz];exact q2⟩
  simp only [Instr.build,Sem.run_bind,g1,Result.andThen_ok,run_underlying' ((h t).arr _ _ he),run_sizeOf' h he0,hlist,q1,Sem.run_pure]
end Go.Am
end