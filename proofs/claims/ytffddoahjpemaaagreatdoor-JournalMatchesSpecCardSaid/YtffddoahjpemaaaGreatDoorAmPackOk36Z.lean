/- Part of a proof. -/
import Derived.Test.YtffddoahjpemaaaGreatDoorAmWire3
import Derived.Test.YtffddoahjpemaaaGreatDoorAmWf
import Derived.RangeFuncBox
import Derived.RangeFuncLeaves
import Derived.RangeFuncNested
import Derived.RangeFuncBound
import Derived.RangeFuncCalls
import Derived.Shelf.Abstract
import Derived.WalkKit
import Derived.OwnWalkIn
import Derived.TacticsInMore
import Derived.LoopNIn
import Derived.LoopIn
import Derived.IntWalk
import Derived.Test.YtffddoahjpemaaaGreatDoorAm36ZD
set_option linter.unusedSimpArgs false
set_option linter.unusedVariables false
section
/- Iterators: the parts of a code that the machine runs between two calls of yield; a fresh start of the machine over two variables that are read. -/
namespace Go.Am
open Go Go.RowKit
variable {P : Program} {V : Env} {U : Oth} {w0 : World} {W0 : Nat → Prop} {ρ : Rho} {s : St} {a : Act} {w : World}
def segs{α:Type}(V:Env)(A:Cuts)(f:St→α):List Code→St→Option α
 | [],s=>some (f s)
 | c :: l,s=>ii V A c s fun e s'=>match e with
  | .normal=>segs V A f l s'
  | _=>none
def aTA:List Code→Code→Code
 | [],r=>r
 | c :: l,r=>.seq c (aTA l r)
theorem En(hm:P.follows .mixedOrders=true)(h:TysOk P V.T)(hE:EOk P V){A:Cuts}{α:Type}{f:Ex→St→Option α}{o:α}{c:Code}{m:Nat}{Q:Exit→Act→World→Prop}(hs:Sim U V.G w0 W0 ρ s a w)(hx:ii V A c s f=some o)
  (hQ:∀ e x a' w' ρ',Sim U V.G w0 W0 ρ' x a' w'→f e x=some o→Q (anq e) a' w'):c.wpIn Fence.wide m P Q a w:=
 wpIn_wide.2 (Aq hm h hE c s f ρ a w Q hs hx hQ)
theorem aBk{α:Type}(hm:P.follows .mixedOrders=true)(h:TysOk P V.T)(hE:EOk P V){A:Cuts}{f:St→α}{o:α}{rest:Code}{m:Nat}{Q:Exit→Act→World→Prop}:∀ (l:List Code) (s:St) (ρ:Rho) (a:Act) (w:World),
  Sim U V.G w0 W0 ρ s a w→segs V A f l s=some o→(∀ x a' w' ρ',Sim U V.G w0 W0 ρ' x a' w'→f x=o→rest.wpIn Fence.wide m P Q a' w')→(aTA l rest).wpIn Fence.wide m P Q a w
 | [],s,ρ,a,w,hs,hx,hQ=>by
  simp only [segs,Option.some.injEq] at hx
  exact hQ s a w ρ hs hx
 | c :: l,s,ρ,a,w,hs,hx,hQ=>by
  simp only [segs] at hx
  refine wpIn_seq (En hm h hE hs hx fun e s' a' w' ρ' hs' hk=>?_)
  cases e with
  | normal=>exact aBk hm h hE l s' ρ' a' w' hs' hk hQ
  | exit j=>cases hk
  | ret=>cases hk
theorem Ar{ops:Array Oper}{i:Nat}{rest:List Nat}{o:Oper}{m:Nat}{Q:Exit→Act→World→Prop}{v:Value}(ho:ops[i]?=some o)(hg:o.guard=none)(hd:∀ c,o.op≠.defer c)
  (hr:(execOp a.eval o).run P w=.ok (.value v) w) (h:wpOpsIn Fence.wide m P ops Q rest (a.put o.dst v) w):wpOpsIn Fence.wide m P ops Q (i :: rest) a w:=by
 simp only [wpOpsIn,ho]
 rw [if_pos (by simp [Region.wanted,hg])]
 refine⟨fun _ _=>trivial,?_⟩
 rw [Oper.semAt_eq _ _ _ hd,hr]
 exact h
theorem azF{ops:Array Oper}{i:Nat}{rest:List Nat}{o:Oper}{m l:Nat}{Q:Exit→Act→World→Prop}{c:Call}{x:Operand}{args:Array Value}{R:Ending→World→Prop}(ho:ops[i]?=some o)(hg:o.guard=none)
  (hc:o.op=.call c) (hx:c.callee=.value x) (hev:a.eval x=.func (.yield l) #[] #[]) (hargs:c.args.map a.eval=args) (hy:YieldAt Fence.wide (m-1) P l args w R)
  (h:∀ e w',R e w' → ∃ v,e=.returned v∧wpOpsIn Fence.wide m P ops Q rest (a.put o.dst v) w'):wpOpsIn Fence.wide m P ops Q (i :: rest) a w:=by
 obtain⟨fn,tmps,assign,body,h1,h2⟩:=hy
 simp only [wpOpsIn,ho]
 rw [if_pos (by simp [Region.wanted,hg])]
 refine⟨fun _ _=>trivial,?_⟩
 have hr:(execOp a.eval o).run P w=.ok (.round l fn tmps assign body) w:=by
  simp only [execOp,hc,resolve,hx,hev,Deferred.ofValue,Sem.run_bind,Sem.run_pure,Result.andThen_ok,invoke,hargs]
  simpa using h1
 rw [Oper.semAt_eq _ _ _ (by simp [hc]),hr]
 refine⟨(fun hdp=>by cases hdp),h2.mono ?_⟩
 intro e w' hR
 obtain⟨v,rfl,hv⟩:=h e w' hR
 exact hv
def nob:Nat→Prop:=fun _=>False
def afN(L0 L1:Loc):Rho:=fun id=>match id with
 | 0=>some (some L0)
 | 1=>some (some L1)
 | _=>none
def ahd(L0 L1:Loc):Oth:={ v:=nob,n:=nob,sub:=fun _ h=>h,ini:=afN L0 L1 }
def VY(x0 x1:AV):List (Nat×Blk):=[(0,.cells 1 (.one x0) false),(1,.cells 1 (.one x1) false)]
theorem wr2{L0 L1:Loc}{x0 x1:AV}:Wr (ahd L0 L1) (afN L0 L1) (VY x0 x1)=nob:=by
 funext b;apply propext
 constructor
 ·rintro(h | ⟨id,n,r,L,h,_⟩)
  ·exact h
  ·simp only [VY,eJ] at h
   split at h
   ·cases h
   ·split at h
    ·cases h
    ·simp [lkH] at h
 ·intro h;exact h.elim
theorem ahe{G:Nat→Option AV}{w w':World}{W0:Nat→Prop}(h:GOk G w W0){n:Nat}(hb:Below n w w')(hn:∀ g r,G g=some r→r.leafB=true→g < n):GOk G w' nob:=fun g r hg hl=>by
 obtain⟨h1,h2,h3,vals,h4⟩:=h g r hg hl
 refine⟨h1,Nat.lt_of_lt_of_le h2 hb.size,fun h=>h,vals,fun j hj=>⟨?_,(h4 j hj).2⟩⟩
 exact(hb.cell (p:=⟨g,j,none⟩) (hn g r hg hl)).trans (h4 j hj).1
theorem Sim.two{G:Nat→Option AV}{L0 L1:Loc}{x0 x1:AV}{v0 v1:Value}{tmps:List (Nat×AV)}(hG:GOk G w nob)(hb0:L0.base=0∧L0.n=1∧L0.b < w.heap.size)(hb1:L1.base=0∧L1.n=1∧L1.b < w.heap.size)
  (hs0:x0.scal=true) (hs1:x1.scal=true) (hc0:w.cell? ⟨L0.b,0,none⟩=some v0) (hc1:w.cell? ⟨L1.b,0,none⟩=some v1) (hr0:∀ ρ,Rep w nob ρ x0 v0) (hr1:∀ ρ,Rep w nob ρ x1 v1)
  (ht:∀ t,Rep w nob (afN L0 L1) (lk t tmps) (a.tmps.getD t Go.undef)) (hd:a.defers=[]) :
  Sim (ahd L0 L1) G w nob (afN L0 L1) { tmps:=tmps,heap:=VY x0 x1,next:=2,nt:=a.tmps.size,m:=2 } a w:=by
 have hlk:∀ id n r b,lkH id (VY x0 x1)=.cells n r b→(id=0∧n=1∧r=.one x0∧b=false)∨(id=1∧n=1∧r=.one x1∧b=false):=fun id n r b h=>by
  simp only [VY,eJ] at h
  split at h
  ·rename_i e;cases h;exact .inl ⟨e,rfl,rfl,rfl⟩
  ·split at h
   ·rename_i e;cases h;exact .inr ⟨e,rfl,rfl,rfl⟩
   ·simp [lkH] at h
 have hW:Wr (ahd L0 L1) (afN L0 L1) (VY x0 x1)=nob:=wr2
 exact {
  tm:=fun t=>by rw [hW];exact ht t
  nt:=rfl
  df:=hd
  bl:=fun id n r b h=>by
   rcases hlk id n r b h with ⟨rfl,rfl,rfl,rfl⟩ | ⟨rfl,rfl,rfl,rfl⟩
   ·exact { wf:=fun _=>hs0,size:=rfl,lies:=.inr ⟨L0,rfl,hb0.2.1,fun j hj=>⟨v0,by rw [show j=0 by omega,hb0.1];exact hc0,by rw [hW,show j=0 by omega];exact hr0 _⟩,(fun e=>by cases e),hb0.2.2⟩,map:=fun _ _ _ _ e=>(by cases e),typ:=fun t e=>by cases e }
   ·exact { wf:=fun _=>hs1,size:=rfl,lies:=.inr ⟨L1,rfl,hb1.2.1,fun j hj=>⟨v1,by rw [show j=0 by omega,hb1.1];exact hc1,by rw [hW,show j=0 by omega];exact hr1 _⟩,(fun e=>by cases e),hb1.2.2⟩,map:=fun _ _ _ _ e=>(by cases e),typ:=fun t e=>by cases e }
  sep:=fun id id' n r n' r' b' L L' h _ _ _ _=>by
   rcases hlk id n r true h with ⟨_,_,_,e⟩ | ⟨_,_,_,e⟩ <;> cases e
  dom:=fun id h=>by
   match id with
   | 0=>rfl
   | 1=>rfl
   | n+2=>exact absurd rfl h
  fr:=fun _ _ _=>rfl
  wo:=fun b h=>.inl (by rw [← hW];exact .inr h)
  sz:=Nat.le_refl _
  gl:=hG
  uo:=fun b h=>h.elim
  ug:=fun g r _ _ h=>h
  su:=fun id n r b L _ _ h=>h
  ini:=fun id x h=>h
  im:=fun id h=>by
   match id with
   | 0=>exact Nat.zero_lt_two
   | 1=>exact Nat.one_lt_two
   | n+2=>exact absurd rfl h
  sm:=WSame.refl _ }
theorem Sim.two_below{G:Nat→Option AV}{L0 L1:Loc}{x:St}{a':Act}{w':World}{ρ':Rho}(h:Sim (ahd L0 L1) G w nob ρ' x a' w'):Below w.heap.size w w':=
 ⟨h.sm.1,h.sm.2.2,h.sm.2.1,h.sz,fun k hk=>h.fr k hk fun e=>e⟩
theorem aLr{w:World}{W:Nat→Prop}{ρ:Rho}{l:Nat}{v:Value}(h:Rep w W ρ (.fn (1073741824+l) .nil) v):v=.func (.yield l) #[] #[]:=by
 generalize hf:1073741824+l=f at h
 cases h with
 | fn _ _ _ hf2=>omega
 | yl l'=>rw [show l=l' by omega]
end Go.Am
end
section
/- The sector that the program builds cell by cell. -/
namespace Go.Jr
open Go Go.Am
theorem aD7(n:Int):small n 0=[]:=rfl
theorem a8P(n k m:Int):put (put (put (List.replicate 64 0) 0 n 4) 4 k 2) 6 m 2=(small n 4++small k 2++small m 2)++List.replicate 56 0:=by
 simp only [alg,aD7]
 rfl
theorem sec_eq(n:Int)(t:Li)(k:Nat){Q r S:List Int}(hr:r=rest t k)(hQ:Q=put (put (put (List.replicate 64 0) 0 n 4) 4 (k:Int) 2) 6 (r.length:Int) 2)
  (hS:S=Q.take 8++r.take (min r.length 48)++Q.drop (8+min r.length 48)):S.take 56++((Sha.hash (S.take 56)).take 32).take 8++S.drop 64=sector n t k:=by
 rw [a8P] at hQ
 have hh:(small n 4++small (k:Int) 2++small (r.length:Int) 2).length=8:=by simp only [List.length_append,small_len]
 have hf:front n t k=small n 4++small (k:Int) 2++small (r.length:Int) 2++fill r:=by rw [hr];rfl
 generalize small n 4++small (k:Int) 2++small (r.length:Int) 2=h at *
 have e1:Q.take 8=h:=by rw [hQ];exact List.take_left' hh
 have e2:Q.drop (8+min r.length 48)=List.replicate (56-min r.length 48) 0:=by
  rw [hQ,← hh,List.drop_append,List.drop_replicate]
  rw [List.drop_eq_nil_of_le (by omega),List.nil_append]
  congr 1;omega
 have e3:r.take (min r.length 48)=r.take 48:=by
  rcases Nat.le_total r.length 48 with h1 | h1
  ·rw [Nat.min_eq_left h1,List.take_length,List.take_of_length_le h1]
  ·rw [Nat.min_eq_right h1]
 have e4:S.take 56=front n t k:=by
  rw [hS,e1,e2,e3,hf,fill,List.append_assoc,List.take_append,List.take_of_length_le (by omega),hh]
  congr 1
  rw [List.take_append,List.take_replicate,List.length_take,List.take_of_length_le (by rw [List.length_take];omega)]
  congr 2
  omega
 have e5:S.drop 64=[]:=List.drop_eq_nil_of_le (by
  rw [hS,e1,e2,e3];simp only [List.length_append,List.length_take,List.length_replicate,hh];omega)
 rw [e4,e5,List.append_nil,List.take_take,sector,checked]
 rfl
end Go.Jr
end
section
/- The sectors of a record: what the program's iterator does between two calls of yield, run by the machine. -/
namespace Go.Am
open Go Go.Proofs Go.RowKit
def ajr:Env:=dL fP dM [(34,[none],r34),(91,[none,none],r91),(75,[some 5],r75)]
theorem aq0:EOk Tryz.prog ajr:=bL (by exact⟨c34,c91,c75,trivial⟩)
def AP:Cuts:={ F:=0,at_:=fun _=>none,join:=fun _=>none }
noncomputable abbrev B90:Code:=zZ Tryz.f90
noncomputable def av4:List Code:=[(sub B90 [1,0,0,1,1,0,0,0]),(sub B90 [1,0,0,1,1,0,0,1,0]),(sub B90 [1,0,0,1,1,0,0,1,1,0]),(sub B90 [1,0,0,1,1,0,0,1,1,1,0]),(sub B90 [1,0,0,1,1,0,0,1,1,1,1,0]),(sub B90 [1,0,0,1,1,0,0,1,1,1,1,1,0]),(sub B90 [1,0,0,1,1,0,0,1,1,1,1,1,1,0]),(sub B90 [1,0,0,1,1,0,0,1,1,1,1,1,1,1,0]),(sub B90 [1,0,0,1,1,0,0,1,1,1,1,1,1,1,1,0])]
theorem a8Q:Tryz.f90.body=some (.seq (sub B90 [0]) (.block 0 (.loop (.seq (sub B90 [1,0,0,0]) (.seq (sub B90 [1,0,0,1,0]) (.seq (.block 1 (aTA av4 (.seq (sub B90 [1,0,0,1,1,0,0,1,1,1,1,1,1,1,1,1,0]) (sub B90 [1,0,0,1,1,0,0,1,1,1,1,1,1,1,1,1,1])))) (sub B90 [1,0,0,1,1,1]))))))):=by kernel_rfl
def tm0(c k:Int)(l:Nat):List (Nat×AV):=[(0,.fn (1073741824+l) .nil),(1,.ptr 0 0 1 0 0 0 1),(2,.ptr 1 0 1 0 0 0 1),(10,.int .i64 c),(11,.int .i64 k)]
def st0(t:List Int)(n c k:Int)(l nt:Nat):St:={ tmps:=tm0 c k l,heap:=VY (.str t) (.int .i64 n),next:=2,nt:=nt,m:=2 }
def obs(s:St):Nat×AV×AV×AV×AV×AV×AV×Blk:=(s.nt,lk 0 s.tmps,lk 1 s.tmps,lk 2 s.tmps,lk 10 s.tmps,lk 11 s.tmps,lk 5 s.tmps,lkH 34 s.heap)
theorem a8R(t:List Int)(n c k:Int)(l:Nat):segs ajr AP obs av4 (st0 t n c k l Tryz.f90.ntmps) =
  cond (((decide (0≤(IntKind.i64.wrap ((48:Int)*k))))&&(decide ((IntKind.i64.wrap ((48:Int)*k))≤(↑t.length:Int))))&&(decide ((↑t.length:Int)≤(↑t.length:Int)))) (cond (decide (0≤n)) (cond (decide (0≤k)) (cond (decide (0≤(↑((t.take t.length).drop (Int.toNat (IntKind.i64.wrap ((48:Int)*k)))).length:Int)))
   (some (Tryz.f90.ntmps,.fn (1073741824+l) .nil,.ptr 0 0 1 0 0 0 1,.ptr 1 0 1 0 0 0 1,.int .i64 c,.int .i64 k,.ptr 34 0 64 0 0 0 64,.cells 64 (.rI .u8 (((Jr.put (Jr.put (Jr.put (List.replicate 64 0) 0 n 4) 4 k 2) 6 (↑((t.take t.length).drop (Int.toNat (IntKind.i64.wrap ((48:Int)*k)))).length:Int) 2).take 8++(((t.take t.length).drop (Int.toNat (IntKind.i64.wrap ((48:Int)*k)))).take (min ((t.take t.length).drop (Int.toNat (IntKind.i64.wrap ((48:Int)*k)))).length 48))++(Jr.put (Jr.put (Jr.put (List.replicate 64 0) 0 n 4) 4 k 2) 6 (↑((t.take t.length).drop (Int.toNat (IntKind.i64.wrap ((48:Int)*k)))).length:Int) 2).drop (8+(min ((t.take t.length).drop (Int.toNat (IntKind.i64.wrap ((48:Int)*k)))).length 48))).take 56++(((Sha.hash (((Jr.put (Jr.put (Jr.put (List.replicate 64 0) 0 n 4) 4 k 2) 6 (↑((t.take t.length).drop (Int.toNat (IntKind.i64.wrap ((48:Int)*k)))).length:Int) 2).take 8++(((t.take t.length).drop (Int.toNat (IntKind.i64.wrap ((48:Int)*k)))).take (min ((t.take t.length).drop (Int.toNat (IntKind.i64.wrap ((48:Int)*k)))).length 48))++(Jr.put (Jr.put (Jr.put (List.replicate 64 0) 0 n 4) 4 k 2) 6 (↑((t.take t.length).drop (Int.toNat (IntKind.i64.wrap ((48:Int)*k)))).length:Int) 2).drop (8+(min ((t.take t.length).drop (Int.toNat (IntKind.i64.wrap ((48:Int)*k)))).length 48))).take 56)).take 32).take 8)++(((Jr.put (Jr.put (Jr.put (List.replicate 64 0) 0 n 4) 4 k 2) 6 (↑((t.take t.length).drop (Int.toNat (IntKind.i64.wrap ((48:Int)*k)))).length:Int) 2).take 8++(((t.take t.length).drop (Int.toNat (IntKind.i64.wrap ((48:Int)*k)))).take (min ((t.take t.length).drop (Int.toNat (IntKind.i64.wrap ((48:Int)*k)))).length 48))++(Jr.put (Jr.put (Jr.put (List.replicate 64 0) 0 n 4) 4 k 2) 6 (↑((t.take t.length).drop (Int.toNat (IntKind.i64.wrap ((48:Int)*k)))).length:Int) 2).drop (8+(min ((t.take t.length).drop (Int.toNat (IntKind.i64.wrap ((48:Int)*k)))).length 48))).drop 64))) true)) none) none) none) none:=by kernel_rfl
theorem baq(t:List Int)(n:Int)(l:Nat):ii ajr AP (sub B90 [0]) { tmps:=[(0,.fn (1073741824+l) .nil),(1,.ptr 0 0 1 0 0 0 1),(2,.ptr 1 0 1 0 0 0 1)],heap:=VY (.str t) (.int .i64 n),next:=2,nt:=Tryz.f90.ntmps,m:=2 } (fun e s=>match e with | .normal=>some (obs s) | _=>none) =
  some (Tryz.f90.ntmps,.fn (1073741824+l) .nil,.ptr 0 0 1 0 0 0 1,.ptr 1 0 1 0 0 0 1,.int .i64 (Jr.count (↑t.length:Int)),.int .i64 0,.undef,.gone):=by kernel_rfl
theorem bar(t:List Int)(n c k:Int)(l:Nat):ii ajr AP (sub B90 [1,0,0,0]) (st0 t n c k l Tryz.f90.ntmps) (fun e s=>match e with | .normal=>some (obs s,lk 12 s.tmps) | _=>none) =
  some ((Tryz.f90.ntmps,.fn (1073741824+l) .nil,.ptr 0 0 1 0 0 0 1,.ptr 1 0 1 0 0 0 1,.int .i64 c,.int .i64 k,.undef,.gone),.bool (decide (k < c))):=by kernel_rfl
theorem a8S(t:List Int)(n c k:Int)(l:Nat):ii ajr AP (sub B90 [1,0,0,1,1,1]) (st0 t n c k l Tryz.f90.ntmps) (fun e s=>match e with | .normal=>some (obs s) | _=>none) =
  some (Tryz.f90.ntmps,.fn (1073741824+l) .nil,.ptr 0 0 1 0 0 0 1,.ptr 1 0 1 0 0 0 1,.int .i64 c,.int .i64 (IntKind.i64.wrap (k+1)),.undef,.gone):=by kernel_rfl
theorem bas:sub B90 [1,0,0,1,0]=.cond (.tmp 12) .skip (.exit 0):=by kernel_rfl
theorem aYS:sub B90 [1,0,0,1,1,0,0,1,1,1,1,1,1,1,1,1,1]=.cond (.tmp 39) .ret .skip:=by kernel_rfl
noncomputable def aYT:Array Oper:=match sub B90 [1,0,0,1,1,0,0,1,1,1,1,1,1,1,1,1,0] with
 | .region _ ops _=>ops
 | _=>#[]
noncomputable def o11(i:Nat):Oper:=aYT.getD i default
theorem a8T:sub B90 [1,0,0,1,1,0,0,1,1,1,1,1,1,1,1,1,0]=.region 11 aYT false:=by kernel_rfl
theorem alP:aYT.size=4:=by kernel_rfl
theorem WA{i:Nat}(h:i < 4):aYT[i]?=some (o11 i):=by
 unfold o11
 rw [Array.getD_eq_getD_getElem?,Array.getElem?_eq_getElem (by rw [alP];exact h)];rfl
theorem o0:(o11 0).op=.move (.tmp 0)∧(o11 0).dst=some 36∧(o11 0).guard=none:=⟨by kernel_rfl,by kernel_rfl,by kernel_rfl⟩
theorem o1:(o11 1).op=.load 83 (.tmp 5)∧(o11 1).dst=some 37∧(o11 1).guard=none:=⟨by kernel_rfl,by kernel_rfl,by kernel_rfl⟩
theorem o2:(o11 2).op=.call { callee:=.value (.tmp 36),args:=#[.tmp 37],argTypes:=#[83] }∧(o11 2).dst=some 38∧(o11 2).guard=none:=⟨by kernel_rfl,by kernel_rfl,by kernel_rfl⟩
theorem o3:(o11 3).op=.unOp .not 4 (.tmp 38)∧(o11 3).dst=some 39∧(o11 3).guard=none:=⟨by kernel_rfl,by kernel_rfl,by kernel_rfl⟩
def Kp(n₀ Bt Bn:Nat)(A B:World):Prop:=Below n₀ A B∧B.heap[Bt]?=A.heap[Bt]?∧B.heap[Bn]?=A.heap[Bn]?
theorem Kp.refl(n₀ Bt Bn:Nat)(A:World):Kp n₀ Bt Bn A A:=⟨Below.refl _ _,rfl,rfl⟩
theorem Kp.trans{n₀ Bt Bn:Nat}{A B C:World}(h:Kp n₀ Bt Bn A B)(k:Kp n₀ Bt Bn B C):Kp n₀ Bt Bn A C:=⟨h.1.trans k.1,k.2.1.trans h.2.1,k.2.2.trans h.2.2⟩
def At(l Bt Bn:Nat)(c k:Int)(a:Act):Prop:=a.tmps.size=Tryz.f90.ntmps∧a.defers=[]∧a.tmps.getD 0 Go.undef=.func (.yield l) #[] #[]∧a.tmps.getD 1 Go.undef=.pointer (some ⟨Bt,0,none⟩) ∧
 a.tmps.getD 2 Go.undef=.pointer (some ⟨Bn,0,none⟩)∧a.tmps.getD 10 Go.undef=.int .i64 c∧a.tmps.getD 11 Go.undef=.int .i64 k
def LT(b:Nat):Loc:={ b:=b,base:=0,n:=1,S:=1,ty:=0 }
theorem av5{w:World}{W:Nat→Prop}{L0 L1:Loc}{ρ:Rho}{v:Value}{id:Nat}{L:Loc}(hr:ρ id=some (some L))(h:Rep w W ρ (.ptr id 0 1 0 0 0 1) v):v=.pointer (some ⟨L.b,L.base,none⟩):=by
 cases h with | ptr _ _ _ _ _ _ _ L' hl=>
 rw [hr] at hl;cases hl
 rfl
theorem aq1{w w':World}{G:Nat→Option AV}{l Bt Bn:Nat}{c k:Int}{x:St}{a:Act}{ρ:Rho}(h:Sim (ahd (LT Bt) (LT Bn)) G w nob ρ x a w'){p5:AV}{b34:Blk}
  (ho:obs x=(Tryz.f90.ntmps,.fn (1073741824+l) .nil,.ptr 0 0 1 0 0 0 1,.ptr 1 0 1 0 0 0 1,.int .i64 c,.int .i64 k,p5,b34)):At l Bt Bn c k a:=by
 simp only [obs,Prod.mk.injEq] at ho
 obtain⟨e0,e1,e2,e3,e4,e5,_,_⟩:=ho
 have t0:=h.tm 0;have t1:=h.tm 1;have t2:=h.tm 2;have t10:=h.tm 10;have t11:=h.tm 11
 rw [e1] at t0;rw [e2] at t1;rw [e3] at t2;rw [e4] at t10;rw [e5] at t11
 refine⟨h.nt.trans e0,h.df,aLr t0,av5 (L0:=LT Bt) (L1:=LT Bn) (h.ini 0 _ rfl) t1,av5 (L0:=LT Bt) (L1:=LT Bn) (h.ini 1 _ rfl) t2,?_,?_⟩
 ·generalize a.tmps.getD 10 Go.undef=v at t10;cases t10;rfl
 ·generalize a.tmps.getD 11 Go.undef=v at t11;cases t11;rfl
theorem a8U{w:World}{a:Act}{l Bt Bn:Nat}{c k:Int}{tv:ByteArray}{n:Int}(hA:At l Bt Bn c k a)(hG:GOk dM w nob)(hBt:w.cell? ⟨Bt,0,none⟩=some (.string tv))(hBn:w.cell? ⟨Bn,0,none⟩=some (.int .i64 n))
  (hs:tv.size < 4611686018427387904) (hn:IntKind.i64.has n) (hc:IntKind.i64.has c) (hk:IntKind.i64.has k):Sim (ahd (LT Bt) (LT Bn)) dM w nob (afN (LT Bt) (LT Bn)) (st0 (bytesOf tv) n c k l Tryz.f90.ntmps) a w:=by
 obtain⟨a1,a2,a3,a4,a5,a6,a7⟩:=hA
 have ht:∀ t,Rep w nob (afN (LT Bt) (LT Bn)) (lk t (tm0 c k l)) (a.tmps.getD t Go.undef):=fun t=>by
  simp only [tm0,EA]
  split
  ·rename_i e;subst e;rw [a3];exact .yl l
  ·split
   ·rename_i e;subst e;rw [a4];exact .ptr 0 0 1 0 0 0 1 (LT Bt) rfl (fun _=>rfl) (by decide) (by show 0+1≤1;decide) (by decide)
   ·split
    ·rename_i e;subst e;rw [a5];exact .ptr 1 0 1 0 0 0 1 (LT Bn) rfl (fun _=>rfl) (by decide) (by show 0+1≤1;decide) (by decide)
    ·split
     ·rename_i e;subst e;rw [a6];exact .int _ _ hc
     ·split
      ·rename_i e;subst e;rw [a7];exact .int _ _ hk
      ·exact .undef _
 have:=Sim.two (G:=dM) (w:=w) (a:=a) (L0:=LT Bt) (L1:=LT Bn) (x0:=.str (bytesOf tv)) (x1:=.int .i64 n) (tmps:=tm0 c k l) hG ⟨rfl,rfl,block_lt_of_cell hBt⟩ ⟨rfl,rfl,block_lt_of_cell hBn⟩ rfl rfl hBt hBn (fun ρ=>.str tv hs) (fun ρ=>.int _ _ hn) ht a2
 rw [a1] at this
 exact this
theorem aTB{w w':World}{n₀ Bt Bn:Nat}(h:Below w.heap.size w w')(h0:n₀≤w.heap.size)(h1:Bt < w.heap.size)(h2:Bn < w.heap.size):Kp n₀ Bt Bn w w':=⟨h.mono h0,h.block _ h1,h.block _ h2⟩
theorem aid{w w':World}{b:Nat}{v:Value}(h:w'.heap[b]?=w.heap[b]?)(hc:w.cell? ⟨b,0,none⟩=some v):w'.cell? ⟨b,0,none⟩=some v:=by rw [← hc];exact uQ h 0
theorem xj(a:Act)(d:Nat)(v:Value)(t:Nat):(a.put (some d) v).tmps.getD t Go.undef=if t=d∧d < a.tmps.size then v else a.tmps.getD t Go.undef:=by
 simp only [Act.put,Array.getD_eq_getD_getElem?,Array.getElem?_setIfInBounds]
 by_cases h:d=t
 ·subst h
  by_cases h2:d < a.tmps.size
  ·rw [if_pos rfl,if_pos h2,if_pos ⟨rfl,h2⟩];rfl
  ·rw [if_pos rfl,if_neg h2,if_neg (fun h=>h2 h.2),Array.getElem?_eq_none (by omega)]
 ·rw [if_neg h,if_neg (fun e=>h e.1.symm)]
theorem At.put{l Bt Bn:Nat}{c k:Int}{a:Act}(h:At l Bt Bn c k a){d:Nat}(v:Value)(h0:d≠0)(h1:d≠1)(h2:d≠2)(h10:d≠10)(h11:d≠11):At l Bt Bn c k (a.put (some d) v):=by
 obtain⟨a1,a2,a3,a4,a5,a6,a7⟩:=h
 refine⟨by simp only [Act.put,Array.size_setIfInBounds];exact a1,a2,?_,?_,?_,?_,?_⟩ <;> rw [xj,if_neg (fun e=>by omega)] <;> assumption
theorem afO{n:Int}(h1 : -1000000≤n)(h2:n≤1000000):IntKind.i64.has n:=by
 unfold IntKind.has;simp [IntKind.min,IntKind.max,IntKind.signed,IntKind.bits];omega
def kOf:Value→Nat
 | .int _ k=>k.toNat
 | _=>0
theorem ahf{n:Int}{t:List Int}{k:Nat}(h:k < (Jr.count t.length).toNat):(Jr.sectors n t).take k++[Jr.sector n t k]=(Jr.sectors n t).take (k+1):=by
 rw [List.take_add_one]
 congr 1
 simp [Jr.sectors,List.getElem?_map,List.getElem?_range h]
def aD8(x:List Int):Array Value:=#[.agg (x.map (Value.int .u8)).toArray]
theorem a8V{x:St}{S:List Int}(h:lkH 34 x.heap=.cells 64 (.rI .u8 S) true):KL ajr 83 (.ptr 34 0 64 0 0 0 64) x=some (.agg 64 (.rI .u8 S)):=by
 simp only [KL,h]
 kernel_rfl
theorem a8W{a:Act}{w:World}:(execOp a.eval (o11 0)).run Tryz.prog w=.ok (.value (a.tmps.getD 0 Go.undef)) w:=by
 simp only [execOp,o0.1];rfl
theorem a8X{a:Act}{w:World}{v:Value}(h:(Instr.loadAt 83 (a.tmps.getD 5 Go.undef)).run Tryz.prog w=.ok v w):(execOp a.eval (o11 1)).run Tryz.prog w=.ok (.value v) w:=by
 simp only [execOp,o1.1];exact va h
theorem aLs{a:Act}{w:World}{b:Bool}(h:a.tmps.getD 38 Go.undef=.bool b):(execOp a.eval (o11 3)).run Tryz.prog w=.ok (.value (.bool (!b))) w:=by
 have:a.eval (.tmp 38)=.bool b:=h
 simp only [execOp,o3.1,this];rfl
theorem azG{w:World}{W:Nat→Prop}{ρ:Rho}{b:Bool}{v:Value}(h:Rep w W ρ (.bool b) v):v=.bool b:=by cases h;rfl
theorem aoH{w w':World}(h:Below w.heap.size w w'):w.grownBy w' none:=⟨h.os,h.tape,h.output,h.size,fun k hk _=>h.block k hk⟩
theorem av6{t:List Int}(h:t.length≤8000):0≤Jr.count t.length∧Jr.count t.length≤200 ∧ ∀ k:Nat,(k:Int) < Jr.count t.length→48*k≤t.length:=by
 unfold Jr.count
 rw [ba (by omega)]
 split <;> refine⟨by omega,by omega,fun k hk=>by omega⟩
set_option maxHeartbeats 4000000 in
theorem aLt{n l Bt Bn n₀:Nat}{tv:ByteArray}{num:Int}{J Jx:List (List Int)→World→Prop}{W:World}(hs:tv.size≤8000)(hn1:1≤num)(hn2:num≤4096)
  (hBt:W.cell? ⟨Bt,0,none⟩=some (.string tv)) (hBn:W.cell? ⟨Bn,0,none⟩=some (.int .i64 num)) (hG:GOk dM W nob) (hn₀:n₀≤W.heap.size) (hGn:∀ g r,dM g=some r→r.leafB=true→g < n₀) (hJ:AbidesFrom W.heap.size J)
  (hY:∀ (k:Nat) W1,k < (Jr.sectors num (bytesOf tv)).length→J ((Jr.sectors num (bytesOf tv)).take k) W1→YieldAt Fence.wide (n-1) Tryz.prog l (aD8 (Jr.sector num (bytesOf tv) k)) W1 fun e W'=>(e=.returned (.bool true)∧J ((Jr.sectors num (bytesOf tv)).take k++[Jr.sector num (bytesOf tv) k]) W'∧Kp n₀ Bt Bn W1 W')∨(e=.returned (.bool false)∧Jx ((Jr.sectors num (bytesOf tv)).take k++[Jr.sector num (bytesOf tv) k]) W'))
  (h0:J [] W):CallsIn Fence.wide n Tryz.prog 90 #[.func (.yield l) #[] #[],.pointer (some ⟨Bt,0,none⟩),.pointer (some ⟨Bn,0,none⟩)] W fun e W'=>(∃ v,e=.returned v) ∧
   ((∃ xs,xs=Jr.sectors num (bytesOf tv)∧J xs W')∨(∃ pre,(∃ k,k≤(Jr.sectors num (bytesOf tv)).length∧pre=(Jr.sectors num (bytesOf tv)).take k)∧Jx pre W')):=by
 have hlen:(bytesOf tv).length=tv.size:=by simp [bytesOf]
 obtain⟨c0,c200,cq48⟩:=av6 (t:=bytesOf tv) (by omega)
 have hN:(Jr.sectors num (bytesOf tv)).length=(Jr.count (bytesOf tv).length).toNat:=by simp [Jr.sectors]
 obtain⟨N,hNe⟩:∃ N:Nat,(Jr.count (bytesOf tv).length).toNat=N:=⟨_,rfl⟩
 have hNc:Jr.count (bytesOf tv).length=(N:Int):=by omega
 have hhas:∀ k:Nat,k≤200→IntKind.i64.has (k:Int):=fun k hk=>afO (by omega) (by omega)
 have hJB:∀ {s:List (List Int)} {A B:World},J s A→Below A.heap.size A B→J s B:=fun h hb=>hJ _ _ _ none h (aoH hb) (fun r e=>by cases e)
 have hlB:∀ {A:World},Kp n₀ Bt Bn W A→Bt < A.heap.size∧Bn < A.heap.size∧n₀≤A.heap.size:=fun h=>⟨block_lt_of_cell (aid h.2.1 hBt),block_lt_of_cell (aid h.2.2 hBn),Nat.le_trans hn₀ h.1.size⟩
 have hKB:∀ {A B:World},Kp n₀ Bt Bn W A→Below A.heap.size A B→Kp n₀ Bt Bn W B:=fun h hb=>h.trans (aTB hb (hlB h).2.2 (hlB h).1 (hlB h).2.1)
 have hSim:∀ {k:Nat} {a:Act} {A:World},k≤N→At l Bt Bn (Jr.count (bytesOf tv).length) k a→Kp n₀ Bt Bn W A→Sim (ahd (LT Bt) (LT Bn)) dM A nob (afN (LT Bt) (LT Bn)) (st0 (bytesOf tv) num (Jr.count (bytesOf tv).length) k l Tryz.f90.ntmps) a A:=
  fun hk hA hK=>a8U hA (ahe hG hK.1 hGn) (aid hK.2.1 hBt) (aid hK.2.2 hBn) (by omega) (afO (by omega) (by omega)) (afO (by omega) (by omega)) (hhas _ (by omega))
 refine callsIn_of_wp Tryz.func90 a8Q trivial ?_
 have hsz:(#[Value.func (.yield l) #[] #[],.pointer (some ⟨Bt,0,none⟩),.pointer (some ⟨Bn,0,none⟩)]++Array.replicate (Tryz.f90.ntmps-(#[Value.func (.yield l) #[] #[],.pointer (some ⟨Bt,0,none⟩),.pointer (some ⟨Bn,0,none⟩)]:Array Value).size) Go.undef).size=Tryz.f90.ntmps:=by
  simp [Tryz.ntmps90]
 have hS0:Sim (ahd (LT Bt) (LT Bn)) dM W nob (afN (LT Bt) (LT Bn)) { tmps:=[(0,.fn (1073741824+l) .nil),(1,.ptr 0 0 1 0 0 0 1),(2,.ptr 1 0 1 0 0 0 1)],heap:=VY (.str (bytesOf tv)) (.int .i64 num),next:=2,nt:=Tryz.f90.ntmps,m:=2 }
   { tmps:=#[Value.func (.yield l) #[] #[],.pointer (some ⟨Bt,0,none⟩),.pointer (some ⟨Bn,0,none⟩)]++Array.replicate (Tryz.f90.ntmps-(#[Value.func (.yield l) #[] #[],.pointer (some ⟨Bt,0,none⟩),.pointer (some ⟨Bn,0,none⟩)]:Array Value).size) Go.undef,defers:=[] } W:=by
  have:=Sim.two (G:=dM) (w:=W) (a:={ tmps:=#[Value.func (.yield l) #[] #[],.pointer (some ⟨Bt,0,none⟩),.pointer (some ⟨Bn,0,none⟩)]++Array.replicate (Tryz.f90.ntmps-(#[Value.func (.yield l) #[] #[],.pointer (some ⟨Bt,0,none⟩),.pointer (some ⟨Bn,0,none⟩)]:Array Value).size) Go.undef,defers:=[] }) (L0:=LT Bt) (L1:=LT Bn) (x0:=.str (bytesOf tv)) (x1:=.int .i64 num) (tmps:=[(0,.fn (1073741824+l) .nil),(1,.ptr 0 0 1 0 0 0 1),(2,.ptr 1 0 1 0 0 0 1)]) hG ⟨rfl,rfl,block_lt_of_cell hBt⟩ ⟨rfl,rfl,block_lt_of_cell hBn⟩ rfl rfl hBt hBn (fun ρ=>.str tv (by omega)) (fun ρ=>.int _ _ (afO (by omega) (by omega))) (fun t=>by
   simp only [EA]
   split
   ·rename_i e;subst e;rw [Array.getD_eq_getD_getElem?,Array.getElem?_append_left (by simp)];exact .yl l
   ·split
    ·rename_i e;subst e;rw [Array.getD_eq_getD_getElem?,Array.getElem?_append_left (by simp)];exact .ptr 0 0 1 0 0 0 1 (LT Bt) rfl (fun _=>rfl) (by decide) (by show 0+1≤1;decide) (by decide)
    ·split
     ·rename_i e;subst e;rw [Array.getD_eq_getD_getElem?,Array.getElem?_append_left (by simp)];exact .ptr 1 0 1 0 0 0 1 (LT Bn) rfl (fun _=>rfl) (by decide) (by show 0+1≤1;decide) (by decide)
     ·exact .undef _) rfl
  rw [hsz] at this
  exact this
 have hend:∀ {e:Exit} {a:Act} {w:World},e=.normal∨e=.ret→a.defers=[]→((∃ xs,xs=Jr.sectors num (bytesOf tv)∧J xs w)∨(∃ pre,(∃ k,k≤(Jr.sectors num (bytesOf tv)).length∧pre=(Jr.sectors num (bytesOf tv)).take k)∧Jx pre w)) →
   bodyPost Tryz.prog Tryz.f90 (fun e W'=>(∃ v,e=.returned v)∧((∃ xs,xs=Jr.sectors num (bytesOf tv)∧J xs W')∨(∃ pre,(∃ k,k≤(Jr.sectors num (bytesOf tv)).length∧pre=(Jr.sectors num (bytesOf tv)).take k)∧Jx pre W'))) e a w:=fun he hd h=>by
  rcases he with rfl | rfl
  ·exact⟨hd,_,results_none (by kernel_rfl) _ _ _,⟨_,rfl⟩,h⟩
  ·exact⟨hd,_,results_none (by kernel_rfl) _ _ _,⟨_,rfl⟩,h⟩
 refine wpIn_seq (En mixed tys aq0 hS0 (baq (bytesOf tv) num l) fun e x a w ρ hx he=>?_)
 cases e with
 | exit j=>cases he
 | ret=>cases he
 | normal=>
 simp only [Option.some.injEq] at he
 have hA0:=aq1 hx he
 have hB0:=hx.two_below
 refine wpIn_block (wpIn_loop (fun a w=>∃ k:Nat,k≤N∧At l Bt Bn (Jr.count (bytesOf tv).length) k a∧J ((Jr.sectors num (bytesOf tv)).take k) w∧Kp n₀ Bt Bn W w) (fun a _=>N-kOf (a.tmps.getD 11 Go.undef)) ⟨0,Nat.zero_le _,hA0,hJB h0 hB0,hKB (Kp.refl _ _ _ _) hB0⟩ ?_)
 rintro a w ⟨k,hk,hA,hJk,hK⟩
 have ek:kOf (a.tmps.getD 11 Go.undef)=k:=by rw [hA.2.2.2.2.2.2];simp [kOf]
 refine wpIn_seq (En mixed tys aq0 (hSim hk hA hK) (bar (bytesOf tv) num _ k l) fun e x a1 w1 ρ1 hx1 he1=>?_)
 cases e with
 | exit j=>cases he1
 | ret=>cases he1
 | normal=>
 obtain⟨ho1,h12⟩:=Prod.mk.inj (Option.some.inj he1)
 have hA1:=aq1 hx1 ho1
 have hB1:=hx1.two_below
 have hJ1:=hJB hJk hB1
 have hK1:=hKB hK hB1
 have t12:=hx1.tm 12
 rw [h12] at t12
 have e12:a1.eval (.tmp 12)=.bool (decide ((k:Int) < Jr.count (bytesOf tv).length)):=azG t12
 refine wpIn_seq ?_
 rw [bas]
 by_cases hkN:k < N
 case neg=>
  rw [decide_eq_false (by omega)] at e12
  refine wpIn_cond_false e12 (wpIn_exit ?_)
  have:k=N:=by omega
  subst this
  rw [List.take_of_length_le (by omega)] at hJ1
  exact hend (.inl rfl) hA1.2.1 (.inl ⟨_,rfl,hJ1⟩)
 rw [decide_eq_true (by omega)] at e12
 refine wpIn_cond_true e12 (wpIn_skip ?_)
 show Code.wpIn _ _ _ _ _ _ _
 have hk48:=cq48 k (by omega)
 have ew:IntKind.i64.wrap ((48:Int)*k)=((48*k:Nat):Int):=by rw [bM (by omega) (by omega)];omega
 have hr:((bytesOf tv).take (bytesOf tv).length).drop (Int.toNat (IntKind.i64.wrap ((48:Int)*k)))=Jr.rest (bytesOf tv) k:=by
  rw [ew,List.take_length,Int.toNat_natCast];rfl
 have hseg:=a8R (bytesOf tv) num (Jr.count (bytesOf tv).length) k l
 simp only [cH] at hseg
 rw [aK (by rw [ew];omega),aK (by omega),aK (by omega),aK (by omega),Jr.sec_eq num (bytesOf tv) k hr rfl rfl] at hseg
 refine wpIn_seq (wpIn_block (aBk mixed tys aq0 av4 _ _ _ _ (hSim hk hA1 hK1) hseg fun x2 a2 w2 ρ2 hx2 ho2=>?_))
 have hA2:=aq1 hx2 ho2
 have hB2:=hx2.two_below
 have hJ2:=hJB hJ1 hB2
 have hK2:=hKB hK1 hB2
 have t5:=hx2.tm 5
 have o5:lk 5 x2.tmps=.ptr 34 0 64 0 0 0 64∧lkH 34 x2.heap=.cells 64 (.rI .u8 (Jr.sector num (bytesOf tv) k)) true:=by
  simp only [obs,Prod.mk.injEq] at ho2
  exact ho2.2.2.2.2.2.2
 rw [o5.1] at t5
 obtain⟨v,hv1,hv2⟩:=aiS (P:=Tryz.prog) (V:=ajr) (t:=83) tys hx2 t5 (a8V o5.2)
 obtain⟨cs,rfl,hcs⟩:∃ cs,v=.agg cs∧cs=((Jr.sector num (bytesOf tv) k).map (Value.int .u8)).toArray:=by
  cases hv2 with | agg _ _ cs hw hr hc h=>exact⟨cs,rfl,(at1 (n:=64) hr hc h).1⟩
 have hyl:a2.tmps.getD 0 Go.undef=.func (.yield l) #[] #[]:=hA2.2.2.1
 have hnt:(Tryz.f90).ntmps=41:=by kernel_rfl
 refine wpIn_seq ?_
 rw [a8T]
 refine wpIn_region ?_
 rw [alP]
 show wpOpsIn _ _ _ _ _ [0,1,2,3] _ _
 refine Ar (WA (by decide)) o0.2.2 (by rw [o0.1];intro c h;cases h) (a8W (a:=a2)) ?_
 rw [hyl,o0.2.1]
 refine Ar (WA (by decide)) o1.2.2 (by rw [o1.1];intro c h;cases h) (a8X (v:=.agg cs) ?_) ?_
 ·rw [xj,if_neg (fun e=>by omega)];exact hv1
 rw [o1.2.1]
 have hA3:At l Bt Bn (Jr.count (bytesOf tv).length) k ((a2.put (some 36) (.func (.yield l) #[] #[])).put (some 37) (.agg cs)):=(hA2.put _ (by decide) (by decide) (by decide) (by decide) (by decide)).put _ (by decide) (by decide) (by decide) (by decide) (by decide)
 have h36:((a2.put (some 36) (.func (.yield l) #[] #[])).put (some 37) (.agg cs)).tmps.getD 36 Go.undef=.func (.yield l) #[] #[]:=by
  rw [xj,if_neg (fun e=>by omega),xj,if_pos ⟨rfl,by rw [hA2.1,hnt];decide⟩]
 have h37:((a2.put (some 36) (.func (.yield l) #[] #[])).put (some 37) (.agg cs)).tmps.getD 37 Go.undef=.agg cs:=by
  rw [xj,if_pos ⟨rfl,by simp only [Act.put,Array.size_setIfInBounds];rw [hA2.1,hnt];decide⟩]
 generalize ((a2.put (some 36) (.func (.yield l) #[] #[])).put (some 37) (.agg cs))=a3 at hA3 h36 h37 ⊢
 refine azF (l:=l) (args:=aD8 (Jr.sector num (bytesOf tv) k)) (WA (by decide)) o2.2.2 o2.1 rfl h36 (by
   have h37':a3.eval (.tmp 37)=.agg cs:=h37
   simp [aD8,h37',hcs]) (hY k _ (by omega) hJ2) ?_
 rintro e w3 (⟨rfl,hJ3,hK3⟩ | ⟨rfl,hJx3⟩)
 ·refine⟨_,rfl,?_⟩
  rw [o2.2.1]
  have hA4:At l Bt Bn (Jr.count (bytesOf tv).length) k (a3.put (some 38) (.bool true)):=hA3.put _ (by decide) (by decide) (by decide) (by decide) (by decide)
  refine Ar (WA (by decide)) o3.2.2 (by rw [o3.1];intro c h;cases h) (aLs (b:=true) (by rw [xj,if_pos ⟨rfl,by rw [hA3.1,hnt];decide⟩])) ?_
  rw [o3.2.1]
  have hA5:At l Bt Bn (Jr.count (bytesOf tv).length) k ((a3.put (some 38) (.bool true)).put (some 39) (.bool false)):=hA4.put _ (by decide) (by decide) (by decide) (by decide) (by decide)
  have h39:((a3.put (some 38) (.bool true)).put (some 39) (.bool false)).eval (.tmp 39)=.bool false:=by
   show((a3.put (some 38) (.bool true)).put (some 39) (.bool false)).tmps.getD 39 Go.undef=_
   rw [xj,if_pos ⟨rfl,by rw [hA4.1,hnt];decide⟩]
  show Code.wpIn _ _ _ _ _ _ _
  rw [aYS]
  refine wpIn_cond_false h39 (wpIn_skip ?_)
  show Code.wpIn _ _ _ _ _ _ _
  have hK3':=hK2.trans hK3
  refine En mixed tys aq0 (hSim hk hA5 hK3') (a8S (bytesOf tv) num _ k l) fun e x6 a6 w6 ρ6 hx6 he6=>?_
  cases e with
  | exit j=>cases he6
  | ret=>cases he6
  | normal=>
  simp only [Option.some.injEq] at he6
  rw [bM (by omega) (by omega)] at he6
  have hA6:=aq1 hx6 he6
  have hB6:=hx6.two_below
  refine⟨⟨k+1,by omega,hA6,?_,hKB hK3' hB6⟩,?_⟩
  ·rw [← ahf (by omega)];exact hJB hJ3 hB6
  ·rw [ek,hA6.2.2.2.2.2.2]
   show N-(((k:Int)+1).toNat) < N-k
   omega
 ·refine⟨_,rfl,?_⟩
  rw [o2.2.1]
  have hA4:At l Bt Bn (Jr.count (bytesOf tv).length) k (a3.put (some 38) (.bool false)):=hA3.put _ (by decide) (by decide) (by decide) (by decide) (by decide)
  refine Ar (WA (by decide)) o3.2.2 (by rw [o3.1];intro c h;cases h) (aLs (b:=false) (by rw [xj,if_pos ⟨rfl,by rw [hA3.1,hnt];decide⟩])) ?_
  rw [o3.2.1]
  have hA5:At l Bt Bn (Jr.count (bytesOf tv).length) k ((a3.put (some 38) (.bool false)).put (some 39) (.bool true)):=hA4.put _ (by decide) (by decide) (by decide) (by decide) (by decide)
  have h39:((a3.put (some 38) (.bool false)).put (some 39) (.bool true)).eval (.tmp 39)=.bool true:=by
   show((a3.put (some 38) (.bool false)).put (some 39) (.bool true)).tmps.getD 39 Go.undef=_
   rw [xj,if_pos ⟨rfl,by rw [hA4.1,hnt];decide⟩]
  show Code.wpIn _ _ _ _ _ _ _
  rw [aYS]
  refine wpIn_cond_true h39 (wpIn_ret ?_)
  exact hend (.inr rfl) hA5.2.1 (.inr ⟨_,⟨k+1,by omega,ahf (by omega)⟩,hJx3⟩)
end Go.Am
end
section
/- Regions within a round of a range over a function, run by the machine; a fresh start over blocks of one's own; a variable that holds a slice of strings, in the world's words. -/
namespace Go.Am
open Go Go.RowKit
variable {P : Program} {V : Env} {U : Oth} {w0 : World} {W0 : Nat → Prop} {ρ : Rho} {s : St} {a : Act} {w : World}
def abE(o:Oper):Bool:=match o.op with
 | .defer _=>false
 | _=>true
theorem EK{r:Option Nat}{n:Nat}{ops:Array Oper}{Q:Exit→Act→World→Prop}(hQ:¬ LetsOut Q)(hd:ops.all abE=true):
  ∀ (l:List Nat) (a:Act) (w:World),wpOps P ops Q l a w→wpOpsIn { Fence.wide with round:=r } n P ops Q l a w
 | [],a,w,h=>h
 | i :: rest,a,w,h=>by
  unfold wpOps at h
  unfold wpOpsIn
  cases ho:ops[i]? with
  | none=>
   simp only [ho] at h ⊢
   exact EK hQ hd rest a w h
  | some o=>
   simp only [ho] at h ⊢
   split
   ·rename_i hw
    rw [if_pos hw] at h
    have h:=h.resolve_right (fun h=>hQ h.2)
    have hnd:∀ c,o.op≠.defer c:=fun c hc=>by
     obtain⟨hlt,he⟩:=Array.getElem?_eq_some_iff.1 ho
     have:=Array.all_eq_true.1 hd i hlt
     rw [he] at this
     unfold abE at this;rw [hc] at this;cases this
    refine⟨fun _ _=>trivial,?_⟩
    rw [Oper.semAt_eq _ _ _ hnd]
    unfold Oper.wp at h
    generalize (execOp a.eval o).run P w=res at h
    have nx:∀ a w,wpOps P ops Q rest a w→wpOpsIn { Fence.wide with round:=r } n P ops Q rest a w:=fun a w=>EK hQ hd rest a w
    cases res with
    | halt x w'=>cases x <;> exact h
    | ok nxt w'=>
     cases nxt with
     | value v=>exact nx _ _ h
     | skip=>exact nx _ _ h
     | defer d=>exact nx _ _ h
     | enter f args=>
      have hc:=(callsIn_wide (n:=n-1)).2 h
      refine And.intro (fun e=>by cases e) (hc.mono fun e w'' he=>?_)
      cases e with
      | returned v=>exact nx _ _ he
      | panicked ch=>exact he
      | outgrown=>exact he
     | row row args=>
      refine And.intro (fun e=>by cases e) fun c cs _=>?_
      obtain⟨v,w'',r,st⟩:=h c cs
      exact⟨v,w'',nx _ _ r,stepsIn_wide.2 st⟩
     | _=>exact h.elim
   ·rename_i hw
    rw [if_neg hw] at h
    exact⟨fun _ _=>trivial,EK hQ hd rest _ w h⟩
theorem apN(hm:P.follows .mixedOrders=true)(h:TysOk P V.T)(hE:EOk P V){A:Cuts}{α:Type}{f:Ex→St→Option α}{o:α}{id:Nat}{ops:Array Oper}{dr:Bool}{r:Option Nat}{n:Nat}{Q:Exit→Act→World→Prop}(hQo:¬ LetsOut Q)(hd:ops.all abE=true)
  (hs:Sim U V.G w0 W0 ρ s a w) (hx:ii V A (.region id ops dr) s f=some o) (hQ:∀ x a' w' ρ',Sim U V.G w0 W0 ρ' x a' w'→f .normal x=some o→Q .normal a' w'):(Code.region id ops dr).wpIn { Fence.wide with round:=r } n P Q a w:=by
 cases dr with
 | false=>
  refine wpIn_region (EK hQo hd _ _ _ ?_)
  rw [ii] at hx
  obtain⟨s,hs,ha⟩:=ahI hs hx
  have:=anp (x:=o) (ops:=ops) h hE Q (fun s' a' w' ρ' h1 h2=>hQ s' a' w' ρ' h1 h2) ops.toList 0 s ρ a w (by simp) hs ha
  simpa using this
 | true=>
  refine wpIn_region_draw fun t=>EK hQo hd _ _ _ ?_
  rw [ii] at hx
  obtain⟨s,hs,ha⟩:=ahI hs hx
  have:=aui (x:=o) (ops:=ops) h hE Q (fun s' a' w' ρ' h1 h2=>hQ s' a' w' ρ' h1 h2) (hs.heapEq (w':={ w with drawn:=w.drawn+1 }) rfl ⟨rfl,rfl,rfl⟩) ha
  simp only [Region.schedule,hm,Bool.true_or,if_true]
  exact wpAny_sound ops.size t _ a _ this
def Qq(ls:List (Option Loc)):Rho:=fun id=>ls[id]?
def aoI(ls:List (Option Loc)):Oth:={ v:=nob,n:=nob,sub:=fun _ h=>h,ini:=Qq ls }
theorem aLu{H:List Blk}{id n:Nat}{r:AV}{b:Bool}(h:lkH id (tagH 0 H)=.cells n r b):H[id]?=some (.cells n r b):=by
 rw [aav] at h
 simp only [Nat.zero_le,if_true,Nat.sub_zero] at h
 cases hh:H[id]? with
 | none=>rw [hh] at h;cases h
 | some x=>rw [hh] at h;rw [← h];rfl
theorem Sim.fresh{G:Nat→Option AV}{ls:List (Option Loc)}{H:List Blk}{tmps:List (Nat×AV)}(hl:ls.length=H.length)
  (hbl:∀ id n r b,H[id]?=some (.cells n r b)→BlkOk (aoI ls) w (Qq ls) (tagH 0 H) id n r b)
  (hsep:∀ (id id':Nat) (L L':Loc),ls[id]?=some (some L)→ls[id']?=some (some L')→L.b=L'.b→id=id') (hG:GOk G w (WrO (Qq ls) (tagH 0 H)))
  (ht:∀ t,Rep w (Wr (aoI ls) (Qq ls) (tagH 0 H)) (Qq ls) (lk t tmps) (a.tmps.getD t Go.undef)) (hd:a.defers=[]) :
  Sim (aoI ls) G w (WrO (Qq ls) (tagH 0 H)) (Qq ls) { tmps:=tmps,heap:=tagH 0 H,next:=H.length,nt:=a.tmps.size,m:=H.length } a w where
 tm:=ht
 nt:=rfl
 df:=hd
 bl:=fun id n r b h=>hbl id n r b (aLu h)
 sep:=fun id id' n r n' r' b' L L' _ _ h1 h2 e=>hsep id id' L L' h1 h2 e
 dom:=fun id h=>by
  rw [JU]
  have:id < ls.length:=by
   rcases Nat.lt_or_ge id ls.length with h' | h'
   ·exact h'
   ·exact absurd (List.getElem?_eq_none h') h
  simp;omega
 fr:=fun _ _ _=>rfl
 wo:=fun b h=>.inl h
 sz:=Nat.le_refl _
 gl:=hG
 uo:=fun b h=>h.elim
 ug:=fun g r _ _ h=>h
 su:=fun id n r b L _ _ h=>h
 ini:=fun id x h=>h
 im:=fun id h=>by
  rcases Nat.lt_or_ge id ls.length with h' | h'
  ·rw [hl] at h';exact h'
  ·exact absurd (List.getElem?_eq_none h') h
 sm:=WSame.refl _
theorem P5{ls:List (Option Loc)}{H:List Blk}{b:Nat}(h:WrO (Qq ls) (tagH 0 H) b):∃ (id:Nat) (L:Loc),ls[id]?=some (some L)∧L.b=b:=by
 obtain⟨id,n,r,L,_,h1,h2⟩:=h
 exact⟨id,L,h1,h2⟩
def IsStr(xs:List Int)(v:Value):Prop:=∃ s:ByteArray,v=.string s∧s.size < 4611686018427387904∧bytesOf s=xs
theorem IsStr.rep{xs:List Int}{v:Value}(h:IsStr xs v){W:Nat→Prop}:Rep w W ρ (.str xs) v:=by
 obtain⟨s,rfl,h1,rfl⟩:=h;exact .str s h1
theorem av7{xs:List Int}{v:Value}{W:Nat→Prop}(h:Rep w W ρ (.str xs) v):IsStr xs v:=by
 cases h with | str s hm=>exact⟨s,rfl,hm,rfl⟩
structure Strs (p:Nat→Prop) (L0:Loc) (L1:Option Loc) (pre:List (List Int)) (W:World):Prop where
 mine:Mine W L0
 n1:L0.n=1
 lt:L0.b < W.heap.size
 ge:p L0.b
 val:∃ v,W.cell? ⟨L0.b,L0.base+0,none⟩=some v∧match L1 with
  | none=>pre=[] ∧ ∃ a,v=.slice a 0 0
  | some L=>∃ cap,v=.slice (some ⟨L.b,L.base,none⟩) pre.length cap∧L.n=pre.length∧pre.length≤cap∧L.base+cap≤L.S∧pre.length < 4611686018427387904∧Mine W L∧L.b < W.heap.size∧L.b≠L0.b∧(p L.b∧0 < pre.length) ∧
    ∀ j,j < pre.length → ∃ u,W.cell? ⟨L.b,L.base+j,none⟩=some u∧IsStr (pre.getD j []) u
variable {p : Nat → Prop} {L0 : Loc} {L1 : Option Loc} {pre : List (List Int)} {H : List (Nat × Blk)}
theorem Strs.blk0(h:Strs p L0 L1 pre w)(h0:ρ 0=some (some L0))(h1:ρ 1=some L1):BlkOk U w ρ H 0 1 (.one (.own 1 0 1)) true where
 wf:=fun _=>rfl
 size:=rfl
 lies:=.inr ⟨L0,h0,h.n1,fun j hj=>by
  obtain⟨v,hv,hm⟩:=h.val
  obtain rfl:j=0:=by omega
  refine⟨v,hv,?_⟩
  cases L1 with
  | none=>obtain⟨_,a,rfl⟩:=hm;exact .own0 1 1 a h1
  | some L=>
   obtain⟨cap,rfl,g1,g2,g3,g4,_⟩:=hm
   exact .own 1 0 1 pre.length cap L h1 (by omega) rfl g2 (by omega) (by decide) g4,(fun _ _=>h.mine),h.lt⟩
 map:=fun _ _ _ _ e=>by cases e
 typ:=fun t e=>by cases e
theorem Strs.blk1(h:Strs p L0 L1 pre w)(h1:ρ 1=some L1):BlkOk U w ρ H 1 pre.length (.rS pre) true where
 wf:=fun _=>trivial
 size:=rfl
 lies:=by
  obtain⟨v,hv,hm⟩:=h.val
  cases L1 with
  | none=>obtain⟨rfl,_⟩:=hm;exact .inl ⟨h1,rfl⟩
  | some L=>
   obtain⟨cap,rfl,g1,g2,g3,g4,g5,g6,_,_,g7⟩:=hm
   exact .inr ⟨L,h1,g1,fun j hj=>by obtain⟨u,hu,hs⟩:=g7 j hj;exact⟨u,hu,hs.rep⟩,fun _ _=>g5,g6⟩
 map:=fun _ _ _ _ e=>by cases e
 typ:=fun t e=>by cases e
theorem aBl{J:Nat}(b0:BlkOk U w ρ H 0 1 (.one (.own J 0 1)) true)(bJ:BlkOk U w ρ H J pre.length (.rS pre) true)(h0:ρ 0=some (some L0))(hge:p L0.b)(hp:0 < pre.length∨ρ J=some none)(hJ:∀ L,ρ J=some (some L)→L.b≠L0.b∧p L.b):∃ L1,Strs p L0 L1 pre w:=by
 rcases b0.lies with ⟨e,_⟩ | ⟨L,e,g1,g2,g3,g4⟩
 ·rw [h0] at e;cases e
 rw [h0] at e;cases e
 obtain⟨v,hv,hr⟩:=g2 0 (by decide)
 have hr:Rep w (Wr U ρ H) ρ (.own J 0 1) v:=hr
 cases hr with
 | own0 _ _ a hl=>
  rcases bJ.lies with ⟨_,e⟩ | ⟨L,e,_⟩
  ·exact⟨none,⟨g3 rfl rfl,g1,g4,hge,_,hv,List.eq_nil_of_length_eq_zero e,a,rfl⟩⟩
  ·rw [hl] at e;cases e
 | own _ _ _ l cap LJ hlj hn hk hcap hS _ hm=>
  rcases bJ.lies with ⟨e,_⟩ | ⟨L,e,k1,k2,k3,k4⟩
  ·rw [hlj] at e;cases e
  rw [hlj] at e;cases e
  have hll:l=pre.length:=by omega
  subst hll
  have hp:=hp.resolve_right (fun e=>by rw [hlj] at e;cases e)
  refine⟨some LJ,⟨g3 rfl rfl,g1,g4,hge,_,hv,cap,rfl,k1,hcap,by omega,hm,k3 rfl rfl,k4,(hJ LJ hlj).1,⟨(hJ LJ hlj).2,hp⟩,fun j hj=>?_⟩⟩
  obtain⟨u,hu,hs⟩:=k2 j hj
  exact⟨u,hu,av7 hs⟩
theorem ahg{w w':World}{L:Loc}(h:Mine w L)(e:w'.heap[L.b]?=w.heap[L.b]?):Mine w' L:=by
 obtain⟨c,t,fr,h1,h2,h3,h4⟩:=h
 exact⟨c,t,fr,e.trans h1,h2,h3,fun j hj=>(aao e j).trans (h4 j hj)⟩
theorem VZ{w:World}{L:Loc}(h:Mine w L):∃ o:Obj,w.heap[L.b]?=some o∧o.isCells=true:=by
 obtain⟨c,t,fr,h1,_⟩:=h;exact⟨_,h1,rfl⟩
theorem Strs.heap{w w':World}(h:Strs p L0 L1 pre w)(hsz:w.heap.size≤w'.heap.size)(e0:w'.heap[L0.b]?=w.heap[L0.b]?)(e1:∀ L,L1=some L→w'.heap[L.b]?=w.heap[L.b]?):Strs p L0 L1 pre w':=by
 refine⟨ahg h.mine e0,h.n1,Nat.lt_of_lt_of_le h.lt hsz,h.ge,?_⟩
 obtain⟨v,hv,hm⟩:=h.val
 refine⟨v,(uQ e0 _).trans hv,?_⟩
 cases L1 with
 | none=>exact hm
 | some L=>
  obtain⟨cap,rfl,g1,g2,g3,g4,g5,g6,g7,g8,g9⟩:=hm
  exact⟨cap,rfl,g1,g2,g3,g4,ahg g5 (e1 L rfl),Nat.lt_of_lt_of_le g6 hsz,g7,g8,fun j hj=>by obtain⟨u,hu,hs⟩:=g9 j hj;exact⟨u,(uQ (e1 L rfl) _).trans hu,hs⟩⟩
theorem Strs.own:Own (fun (pre:List (List Int)) W=>∃ L1,Strs p L0 L1 pre W):=by
 rintro pre A B row ⟨L1,h⟩ hg hr
 have key:∀ {L:Loc},Mine A L→L.b < A.heap.size→B.heap[L.b]?=A.heap[L.b]?:=fun hm hlt=>by
  refine hg.block _ hlt fun e=>?_
  obtain⟨o,ho,hc⟩:=hr _ e.symm
  obtain⟨o',ho',hc'⟩:=VZ hm
  rw [ho] at ho';cases ho';rw [hc] at hc';cases hc'
 refine⟨L1,h.heap hg.size (key h.mine h.lt) fun L e=>?_⟩
 subst e
 obtain⟨v,hv,cap,_,_,_,_,_,g5,g6,_⟩:=h.val
 exact key g5 g6
end Go.Am
end
section
/- journal.Pack: a range over the sectors of a record. -/
namespace Go.Am
open Go Go.Proofs Go.RowKit
def Kn:Env:=dL fP dM [(74,[none,none],r74)]
theorem XV:EOk Tryz.prog Kn:=bL (by exact⟨c74,trivial⟩)
noncomputable abbrev Ko:Code:=zZ Tryz.f40
def bat:Code→Code
 | .rangeFunc _ _ a _=>a
 | _=>.skip
def bau:Code→Code
 | .rangeFunc _ _ _ b=>b
 | _=>.skip
def afP:Code→Array Oper
 | .region _ ops _=>ops
 | _=>#[]
noncomputable def alQ:Code:=bat (sub Ko [1,1,1,0,1,0])
noncomputable def alR:Code:=sub (bau (sub Ko [1,1,1,0,1,0])) [0]
theorem a7u:Tryz.f40.body=some (.seq (sub Ko [0]) (.seq (sub Ko [1,0]) (.seq (sub Ko [1,1,0]) (.seq (.seq (sub Ko [1,1,1,0,0]) (.block 1 (.rangeFunc (.tmp 21) #[22] alQ (.block 2 alR)))) (.seq (sub Ko [1,1,1,1,0]) .ret))))):=by kernel_rfl
theorem aTC:alQ=.region 7 (afP alQ) false:=by kernel_rfl
theorem aTD:alR=.region 8 (afP alR) true:=by kernel_rfl
theorem aTE:(afP alQ).all abE=true:=by kernel_rfl
theorem aTF:(afP alR).all abE=true:=by kernel_rfl
def aYU(n:Int)(t:Li):St:={ tmps:=[(0,.int .i64 n),(1,.str t)],heap:=[],next:=0,nt:=29,m:=0 }
def hk(s:St):List Nat:=s.heap.map (·.1)
def LK(s:St)(l:List Nat):List AV:=l.map fun i=>lk i s.tmps
def LH(s:St)(l:List Nat):List Blk:=l.map fun i=>lkH i s.heap
def exN:Ex→Nat
 | .normal=>0
 | .ret=>1
 | .exit _=>2
theorem a7v(n:Int)(t:Li):ii Kn AP (sub Ko [0]) (aYU n t) (fun e s=>match e with | .normal=>ii Kn AP (sub Ko [1,0]) s (fun e s=>some (exN e,s.nt,LK s [4,5])) | _=>none) =
  cond (decide (n < 1)) (some (1,29,[.ns,.int .i64 1])) (cond (decide (4096 < n)) (some (1,29,[.ns,.int .i64 1])) (cond (decide (8000 < (↑t.length:Int))) (some (1,29,[.ns,.int .i64 4])) (some (0,29,[.ns,.int .i64 0])))):=by kernel_rfl
theorem a7w(n:Int)(t:Li):segs Kn AP (fun s=>(s.nt,LK s [6,21],LH s [208,256,257])) [sub Ko [0],sub Ko [1,0],sub Ko [1,1,0],sub Ko [1,1,1,0,0]] (aYU n t) =
  cond (decide (n < 1)) none (cond (decide (4096 < n)) none (cond (decide (8000 < (↑t.length:Int))) none (some (29,[.ptr 208 0 1 0 0 0 1,.fn 90 (.cons 0 (.ptr 256 0 1 0 0 0 1) (.cons 0 (.ptr 257 0 1 0 0 0 1) .nil))],[.cells 1 (.one .ns) true,.cells 1 (.one (.str t)) true,.cells 1 (.one (.int .i64 n)) true])))):=by kernel_rfl
def H2(pre:List Li):List Blk:=[.cells 1 (.one (.own 1 0 1)) true,.cells pre.length (.rS pre) true]
def H3(pre:List Li)(x:Li):List Blk:=[.cells 1 (.one (.own 1 0 1)) true,.cells pre.length (.rS pre) true,.cells 64 (.rI .u8 x) true]
theorem aLv(pre:List Li)(x:Li):ii Kn AP (.region 7 (afP alQ) false) { tmps:=[(22,.agg 64 (.rI .u8 x)),(6,.ptr 0 0 1 0 0 0 1)],heap:=tagH 0 (H2 pre),next:=(H2 pre).length,nt:=29,m:=(H2 pre).length } (fun _ s=>some (s.nt,LK s [6,7],LH s [0,1,2])) =
  some (29,[.ptr 0 0 1 0 0 0 1,.ptr 2 0 64 0 0 0 64],H3 pre x):=by kernel_rfl
theorem aLw(pre:List Li)(x:Li):ii Kn AP (.region 8 (afP alR) true) { tmps:=[(6,.ptr 0 0 1 0 0 0 1),(7,.ptr 2 0 64 0 0 0 64)],heap:=tagH 0 (H3 pre x),next:=(H3 pre x).length,nt:=29,m:=(H3 pre x).length } (fun _ s=>some (LH s [0,67])) =
  cond (decide (pre.length+1 < 1073741824)) (some [.cells 1 (.one (.own 67 0 1)) true,.cells (pre++[x.take 64]).length (.rS (pre++[x.take 64])) true]) none:=by kernel_rfl
noncomputable def aBm:Array Oper:=afP (sub Ko [1,1,1,1,0])
noncomputable def Eu(i:Nat):Oper:=aBm.getD i default
theorem a7x:sub Ko [1,1,1,1,0]=.region 9 aBm false:=by kernel_rfl
theorem aiJ:aBm.size=3:=by kernel_rfl
theorem ahh{i:Nat}(h:i < 3):aBm[i]?=some (Eu i):=by
 unfold Eu
 rw [Array.getD_eq_getD_getElem?,Array.getElem?_eq_getElem (by rw [aiJ];exact h)];rfl
theorem aq2:(Eu 0).op=.load 28 (.tmp 6)∧(Eu 0).dst=some 28∧(Eu 0).guard=none:=⟨by kernel_rfl,by kernel_rfl,by kernel_rfl⟩
theorem aq3:(Eu 1).op=.assign (.tmp 28)∧(Eu 1).dst=some 4∧(Eu 1).guard=none:=⟨by kernel_rfl,by kernel_rfl,by kernel_rfl⟩
theorem aq4:(Eu 2).op=.assign (.const (.int .i64 0))∧(Eu 2).dst=some 5∧(Eu 2).guard=none:=⟨by kernel_rfl,by kernel_rfl,by kernel_rfl⟩
theorem aLx(b:Li):∀ x∈Sha.hash b,0≤x∧x < 256:=fun x hx=>by
 simp only [Sha.hash,Sha.fin,Sha.out,List.mem_map] at hx
 obtain⟨i,_,rfl⟩:=hx
 rw [ahJ];omega
theorem aiK{num:Int}{t:List Int}(ht:∀ x∈t,0≤x∧x < 256)(k:Nat):∀ x∈Jr.sector num t k,0≤x∧x < 256:=fun x hx=>by
 simp only [Jr.sector,Jr.checked,Jr.front,Jr.fill,List.mem_append] at hx
 rcases hx with (((h | h) | h) | (h | h)) | h
 ·exact Jr.small_byte _ _ x h
 ·exact Jr.small_byte _ _ x h
 ·exact Jr.small_byte _ _ x h
 ·exact ht x (List.mem_of_mem_drop (List.mem_of_mem_take h))
 ·rw [(List.mem_replicate.1 h).2];decide
 ·exact aLx _ x (List.mem_of_mem_take h)
def fix(x:Li):List Int:=(List.range 64).map fun j=>x.getD j 0%256
theorem Wb(x:Li):(fix x).length=64:=by simp [fix]
theorem aTG(x:Li):∀ y∈fix x,0≤y∧y < 256:=fun y hy=>by
 simp only [fix,List.mem_map] at hy
 obtain⟨j,_,rfl⟩:=hy;omega
theorem aLy{x:List Int}(hl:x.length=64)(hb:∀ y∈x,0≤y∧y < 256):fix x=x:=by
 apply List.ext_getElem (by rw [Wb,hl])
 intro j h1 h2
 simp only [fix,List.getElem_map,List.getElem_range]
 rw [List.getD_eq_getElem?_getD,List.getElem?_eq_getElem h2]
 have:=hb _ (List.getElem_mem h2)
 show x[j]%256=x[j]
 omega
def aTH(x:Li):Array Value:=aD8 (fix x)
theorem a7y{w:World}{W:Nat→Prop}{ρ:Rho}(x:Li):Rep w W ρ (.agg 64 (.rI .u8 (fix x))) (.agg ((fix x).map (Value.int .u8)).toArray):=by
 refine .agg 64 _ _ trivial (Wb x) (by simp [Wb]) fun j hj=>?_
 have hj':j < (fix x).length:=by rw [Wb];exact hj
 have e1:(AV.rI IntKind.u8 (fix x)).cell j=.int .u8 ((fix x)[j]):=by
  show AV.int .u8 ((fix x).getD j 0)=_
  rw [List.getD_eq_getElem?_getD,List.getElem?_eq_getElem hj'];rfl
 have e2:(((fix x).map (Value.int .u8)).toArray).getD j Go.undef=.int .u8 ((fix x)[j]):=by
  rw [Array.getD_eq_getD_getElem?,List.getElem?_toArray,List.getElem?_map,List.getElem?_eq_getElem hj'];rfl
 rw [e1,e2]
 have:=aTG x _ (List.getElem_mem hj')
 exact .int _ _ (by unfold IntKind.has;simp [IntKind.min,IntKind.max,IntKind.signed,IntKind.bits];omega)
theorem aLz{w:World}{W:Nat→Prop}{ρ:Rho}{f:Nat}{caps:AVs}{v:Value}(hf:f < 1073741824)(h:Rep w W ρ (.fn f caps) v):
  ∃ cvs:Array Value,v=.func (.func f) #[] cvs∧caps.len=cvs.size ∧ ∀ j,j < caps.len→Rep w W ρ (caps.nth j) (cvs.getD j Go.undef):=by
 generalize hg:f=g at h
 cases h with
 | fn _ _ cvs h1 h2 h3=>subst hg;exact⟨cvs,rfl,h2,h3⟩
 | yl l=>omega
theorem av8{G:Nat→Option AV}{w:World}{W0:Nat→Prop}(h:GOk G w nob){n₀:Nat}(hn:∀ g r,G g=some r→r.leafB=true→g < n₀)(hW:∀ b,W0 b→n₀≤b):GOk G w W0:=fun g r hg hl=>by
 obtain⟨h1,h2,h3,h4⟩:=h g r hg hl
 exact⟨h1,h2,fun hb=>by have:=hW g hb;have:=hn g r hg hl;omega,h4⟩
def aoJ(n₀:Nat)(xs:List Li)(v:Value)(W:World):Prop:=
 (xs=[] ∧ ∃ a,v=.slice a 0 0)∨(∃ b off cap,v=.slice (some ⟨b,off,none⟩) xs.length cap∧0 < xs.length∧xs.length≤cap∧xs.length < 4611686018427387904∧n₀≤b ∧ ∀ j,j < xs.length → ∃ u,W.cell? ⟨b,off+j,none⟩=some u∧IsStr (xs.getD j []) u)
theorem aoJ.rep{n₀:Nat}{xs:List Li}{v:Value}{W:World}(h:aoJ n₀ xs v W){Wr:Nat→Prop}(hW:∀ b,Wr b→b < n₀){ρ:Rho}:Rep W Wr ρ (.vs (.rS xs) 0 1) v:=by
 rcases h with ⟨rfl,a,rfl⟩ | ⟨b,off,cap,rfl,h0,h1,h2,h3,h4⟩
 ·exact .vs0 _ 1 0 a rfl rfl
 ·refine .vs (.rS xs) 0 1 xs.length cap b off (fun j=>(W.cell? ⟨b,off+j,none⟩).getD Go.undef) rfl (by decide) (by rw [Nat.mul_one];rfl) h0 (.inl rfl) h1 h2 (fun hb=>by have:=hW b hb;omega) ?_ ?_
  ·intro j hj
   obtain⟨u,hu,_⟩:=h4 j (by omega)
   rw [hu];rfl
  ·intro j hj
   obtain⟨u,hu,hs⟩:=h4 j (by omega)
   rw [hu]
   show Rep W Wr ρ (.str (xs.getD j [])) u
   exact hs.rep
theorem aD9{p:Nat→Prop}{n₀:Nat}{L0:Loc}{L1:Option Loc}{xs:List Li}{W W':World}(h:Strs p L0 L1 xs W)(hp:∀ b,p b→n₀≤b)(hk:∀ (b:Nat) (o:Obj),W.heap[b]?=some o→o.isCells=true→W'.heap[b]?=W.heap[b]?):
  ∃ v,W.cell? ⟨L0.b,L0.base,none⟩=some v∧aoJ n₀ xs v W':=by
 obtain⟨v,hv,hm⟩:=h.val
 refine⟨v,hv,?_⟩
 cases L1 with
 | none=>exact .inl hm
 | some L=>
  obtain⟨cap,rfl,g1,g2,g3,g4,g5,g6,g7,⟨g8,g8'⟩,g9⟩:=hm
  obtain⟨o,ho,hc⟩:=VZ g5
  exact .inr ⟨L.b,L.base,cap,rfl,g8',g2,g4,hp _ g8,fun j hj=>by obtain⟨u,hu,hs⟩:=g9 j hj;exact⟨u,(uQ (hk _ _ ho hc) _).trans hu,hs⟩⟩
theorem aLA{n Bt Bn n₀:Nat}{tv:ByteArray}{num:Int}{w:World}(hs:tv.size≤8000)(hn1:1≤num)(hn2:num≤4096)
  (hBt:w.cell? ⟨Bt,0,none⟩=some (.string tv)) (hBn:w.cell? ⟨Bn,0,none⟩=some (.int .i64 num)) (hG:GOk dM w nob) (hn₀:n₀≤w.heap.size) (hGn:∀ g r,dM g=some r→r.leafB=true→g < n₀) :
  SeqStopsK Fence.wide n Tryz.prog 90 #[.pointer (some ⟨Bt,0,none⟩),.pointer (some ⟨Bn,0,none⟩)] aTH (Kp n₀ Bt Bn) (fun xs=>xs=Jr.sectors num (bytesOf tv))
   (fun pre=>∃ k,k≤(Jr.sectors num (bytesOf tv)).length∧pre=(Jr.sectors num (bytesOf tv)).take k) (Jr.sectors num (bytesOf tv)).length w:=fun l J Jx W hW hJ _ hY h0=>by
 have hb:∀ x∈bytesOf tv,0≤x∧x < 256:=fun x hx=>by
  simp only [bytesOf,List.mem_map] at hx
  obtain⟨y,_,rfl⟩:=hx
  exact⟨by omega,by have:=y.toNat_lt;omega⟩
 have hbt:=block_lt_of_cell hBt
 have hbn:=block_lt_of_cell hBn
 refine aLt hs hn1 hn2 ((hW.cell (p:=⟨Bt,0,none⟩) hbt).trans hBt) ((hW.cell (p:=⟨Bn,0,none⟩) hbn).trans hBn) (ahe hG (hW.mono hn₀) hGn) (Nat.le_trans hn₀ hW.size) hGn hJ ?_ h0
 intro k W1 hk hJ1
 have:=hY _ (Jr.sector num (bytesOf tv) k) W1 hJ1 (by rw [List.length_take];omega)
 unfold aTH at this
 rw [aLy (Jr.sector_len _ _ _) (aiK hb k)] at this
 exact this
def okP(n₀ Bt Bn:Nat)(b:Nat):Prop:=n₀≤b∧b≠Bt∧b≠Bn
def AxP(n₀ Bt Bn:Nat)(L6:Loc)(x:Li)(a:Act)(W:World):Prop:=a.tmps.size=29∧a.defers=[]∧a.tmps.getD 6 Go.undef=.pointer (some ⟨L6.b,L6.base,none⟩) ∧
 ∃ L7:Loc,a.tmps.getD 7 Go.undef=.pointer (some ⟨L7.b,L7.base,none⟩)∧Mine W L7∧L7.n=64∧L7.b < W.heap.size∧okP n₀ Bt Bn L7.b∧L7.b≠L6.b ∧
  ∀ j,j < 64 → ∃ u,W.cell? ⟨L7.b,L7.base+j,none⟩=some u∧Rep W nob (fun _=>none) (.int .u8 ((fix x).getD j 0)) u
theorem aoK{w w':World}{W W':Nat→Prop}{ρ ρ':Rho}{k:IntKind}{n:Int}{v:Value}(h:Rep w W ρ (.int k n) v):Rep w' W' ρ' (.int k n) v:=by cases h with | int _ _ h=>exact .int _ _ h
theorem JZ{w:World}{W:Nat→Prop}{ρ:Rho}{id n:Nat}{L:Loc}{v:Value}(hr:ρ id=some (some L))(h:Rep w W ρ (.ptr id 0 n 0 0 0 n) v):v=.pointer (some ⟨L.b,L.base,none⟩):=by
 cases h with | ptr _ _ _ _ _ _ _ L' hl=>
 rw [hr] at hl;cases hl
 rfl
theorem aEa{n₀ Bt Bn B:Nat}{L6:Loc}(x:Li)(a:Act):OwnFrom B (fun (_:Unit) W=>AxP n₀ Bt Bn L6 x a W):=by
 rintro _ X Y row ⟨h1,h2,h3,L7,h4,h5,h6,h7,h8,h9,h10⟩ hg hr
 obtain⟨o,ho,hc⟩:=VZ h5
 have hh:Y.heap[L7.b]?=X.heap[L7.b]?:=hg.block _ h7 fun e=>by
  obtain⟨_,o',ho',hc'⟩:=hr _ e.symm
  rw [ho] at ho';cases ho';rw [hc] at hc';cases hc'
 exact⟨h1,h2,h3,L7,h4,ahg h5 hh,h6,Nat.lt_of_lt_of_le h7 hg.size,h8,h9,fun j hj=>by obtain⟨u,hu,hs⟩:=h10 j hj;exact⟨u,(uQ hh _).trans hu,aoK hs⟩⟩
theorem aLB{P:Program}{V:Env}(h:TysOk P V.T){t:Nat}(h1:(V.T.at t).d.isAgg=false)(h2:(V.T.at t).sz=1){w:World}{b off:Nat}{v:Value}(hc:w.cell? ⟨b,off,none⟩=some v):(Instr.loadAt t (.pointer (some ⟨b,off,none⟩))).run P w=.ok v w:=by
 simp [Instr.loadAt,Instr.sureAddr,loadVar,xf h h1 h2,hc]
theorem Sim.keepsFrom{ls:List (Option Loc)}{H:List Blk}{G:Nat→Option AV}{w w':World}{ρ:Rho}{x:St}{a:Act}(h:Sim (aoI ls) G w (WrO (Qq ls) (tagH 0 H)) ρ x a w')(hm:∀ (id:Nat) (L:Loc),ls[id]?=some (some L)→Mine w L)(B:Nat):KeepsFrom B w w':=
 ⟨h.sz,fun k o _ hk ho=>by
  rw [← hk]
  refine h.fr k (Array.getElem?_eq_some_iff.1 hk).1 fun hb=>?_
  obtain⟨id,L,e1,rfl⟩:=P5 hb
  obtain⟨o',ho',hc⟩:=VZ (hm _ _ e1)
  rw [hk] at ho';cases ho';rw [ho] at hc;cases hc⟩
theorem Sim.kp{ls:List (Option Loc)}{H:List Blk}{G:Nat→Option AV}{w w':World}{ρ:Rho}{x:St}{a:Act}{n₀ Bt Bn:Nat}(h:Sim (aoI ls) G w (WrO (Qq ls) (tagH 0 H)) ρ x a w')(hp:∀ (id:Nat) (L:Loc),ls[id]?=some (some L)→okP n₀ Bt Bn L.b)(h0:n₀≤w.heap.size)(h1:Bt < w.heap.size)(h2:Bn < w.heap.size):Kp n₀ Bt Bn w w':=by
 have key:∀ k,k < w.heap.size→(∀ (id:Nat) (L:Loc),ls[id]?=some (some L)→L.b≠k)→w'.heap[k]?=w.heap[k]?:=fun k hk hne=>h.fr k hk fun hb=>by
  obtain⟨id,L,e1,e2⟩:=P5 hb
  exact hne _ _ e1 e2
 refine⟨⟨h.sm.1,h.sm.2.2,h.sm.2.1,h.sz,fun k hk=>key k (by omega) fun id L e e2=>?_⟩,key _ h1 fun id L e=>(hp _ _ e).2.1,key _ h2 fun id L e=>(hp _ _ e).2.2⟩
 have:=(hp _ _ e).1;omega
theorem aTI{n l n₀ Bt Bn:Nat}{L6:Loc}{L1:Option Loc}{pre:List Li}{x:List Int}{a:Act}{W:World}{K:Act→World→Prop}{B:Nat}(hS:Strs (okP n₀ Bt Bn) L6 L1 pre W)(hG:GOk dM W nob)(hGn:∀ g r,dM g=some r→r.leafB=true→g < n₀)(hn₀:n₀≤W.heap.size)(hbt:Bt < W.heap.size)(hbn:Bn < W.heap.size)
  (ha:a.tmps.size=29) (hd:a.defers=[]) (h6:a.tmps.getD 6 Go.undef=.pointer (some ⟨L6.b,L6.base,none⟩)) (h22:a.tmps.getD 22 Go.undef=.agg ((fix x).map (Value.int .u8)).toArray)
  (hK:∀ a' W',KeepsFrom B W W'→Kp n₀ Bt Bn W W'→(∃ L1,Strs (okP n₀ Bt Bn) L6 L1 pre W')→AxP n₀ Bt Bn L6 x a' W'→K a' W'):alQ.wpIn { Fence.wide with round:=some l } n Tryz.prog (Exit.then K (fun _ _ _=>False)) a W:=by
 have hb1:∀ (id:Nat) (L:Loc),[some L6,L1][id]?=some (some L)→Mine W L∧okP n₀ Bt Bn L.b∧L.b < W.heap.size∧(id=0∧L=L6∨id=1∧L1=some L∧L.b≠L6.b):=fun id L e=>by
  match id with
  | 0=>cases e;exact⟨hS.mine,hS.ge,hS.lt,.inl ⟨rfl,rfl⟩⟩
  | 1=>
   have e:L1=some L:=by simpa using e
   subst e
   obtain⟨v,hv,cap,_,_,_,_,_,g5,g6,g7,g8,_⟩:=hS.val
   exact⟨g5,g8.1,g6,.inr ⟨rfl,rfl,g7⟩⟩
  | k+2=>simp at e
 have hSim:=Sim.fresh (G:=dM) (w:=W) (a:=a) (ls:=[some L6,L1]) (H:=H2 pre) (tmps:=[(22,.agg 64 (.rI .u8 (fix x))),(6,.ptr 0 0 1 0 0 0 1)]) rfl
  (fun id n r b e=>by
   match id with
   | 0=>cases e;exact hS.blk0 rfl rfl
   | 1=>cases e;exact hS.blk1 rfl
   | k+2=>simp [H2] at e)
  (fun id id' L L' e e' hb=>by
   obtain⟨_,_,_,h⟩:=hb1 id L e
   obtain⟨_,_,_,h'⟩:=hb1 id' L' e'
   rcases h with ⟨rfl,rfl⟩ | ⟨rfl,h,hn⟩ <;> rcases h' with ⟨rfl,rfl⟩ | ⟨rfl,h',hn'⟩
   ·rfl
   ·exact absurd hb.symm hn'
   ·exact absurd hb hn
   ·rfl)
  (av8 hG hGn fun b hb=>by
   obtain⟨id,L,e,rfl⟩:=P5 hb
   exact(hb1 id L e).2.1.1)
  (fun t=>by
   simp only [EA]
   split
   ·rename_i e;subst e;rw [h22];exact a7y x
   ·split
    ·rename_i e;subst e;rw [h6];exact .ptr 0 0 1 0 0 0 1 L6 rfl (fun _=>rfl) (by decide) (by rw [hS.n1];decide) (by decide)
    ·exact .undef _) hd
 rw [ha] at hSim
 rw [aTC]
 refine apN (V:=Kn) mixed tys XV (fun h=>by obtain⟨_,_,h⟩:=h;exact h) aTE hSim (aLv pre (fix x)) fun y a' W' ρ' hy ho=>?_
 simp only [Option.some.injEq,Prod.mk.injEq,LK,LH,List.map_cons,List.map_nil,List.cons.injEq,and_true,H3] at ho
 obtain⟨o1,⟨o2,o3⟩,o4,o5,o6⟩:=ho
 have hkp:=hy.kp (n₀:=n₀) (Bt:=Bt) (Bn:=Bn) (fun id L e=>(hb1 id L e).2.1) hn₀ hbt hbn
 have hr0:ρ' 0=some (some L6):=hy.ini 0 _ rfl
 have hr1:ρ' 1=some L1:=hy.ini 1 _ rfl
 have t6:=hy.tm 6;rw [o2] at t6
 have t7:=hy.tm 7;rw [o3] at t7
 have b2:=hy.bl 2 _ _ _ o6
 rcases b2.lies with ⟨_,e⟩ | ⟨L7,e,g1,g2,g3,g4⟩
 ·cases e
 have hL7:L7.b < W.heap.size → ∃ (id:Nat) (L:Loc),[some L6,L1][id]?=some (some L)∧L.b=L7.b:=fun hlt=>by
  rcases hy.wo L7.b ⟨2,64,_,L7,o6,e,rfl⟩ with h | h
  ·exact P5 h
  ·omega
 have hne0:L7.b≠L6.b:=fun hb=>by
  have:=hy.sep 2 0 _ _ _ _ _ _ _ o6 o4 e hr0 hb
  cases this
 have hok:okP n₀ Bt Bn L7.b:=by
  rcases Nat.lt_or_ge L7.b W.heap.size with h | h
  ·obtain⟨id,L,e1,e2⟩:=hL7 h
   rw [← e2];exact(hb1 id L e1).2.1
  ·exact⟨by omega,by omega,by omega⟩
 refine hK a' W' (hy.keepsFrom (fun id L e=>(hb1 id L e).1) B) hkp ?_ ⟨hy.nt.trans o1,hy.df,JZ hr0 t6,L7,JZ e t7,g3 rfl rfl,g1,g4,hok,hne0,fun j hj=>?_⟩
 ·have c0:=hy.bl 0 _ _ _ o4
  have c1:=hy.bl 1 _ _ _ o5
  refine aBl (p:=okP n₀ Bt Bn) c0 c1 hr0 hS.ge ?_ fun L e=>?_
  ·cases L1 with
   | none=>exact .inr hr1
   | some L=>obtain⟨v,hv,cap,_,_,_,_,_,g5,g6,g7,g8,_⟩:=hS.val;exact .inl g8.2
  ·have e':L1=some L:=by rw [hr1] at e;exact Option.some.inj e
   subst e'
   obtain⟨v,hv,cap,_,_,_,_,_,g5,g6,g7,g8,_⟩:=hS.val
   exact⟨g7,g8.1⟩
 ·obtain⟨u,hu,hs⟩:=g2 j hj
  exact⟨u,hu,aoK hs⟩
theorem aTJ{n l n₀ Bt Bn:Nat}{L6:Loc}{L1:Option Loc}{pre:List Li}{x:List Int}{a:Act}{W:World}{Q:Exit→Act→World→Prop}{B:Nat}(hS:Strs (okP n₀ Bt Bn) L6 L1 pre W)(hlen:pre.length+1 < 1073741824)(hG:GOk dM W nob)(hGn:∀ g r,dM g=some r→r.leafB=true→g < n₀)(hn₀:n₀≤W.heap.size)(hbt:Bt < W.heap.size)(hbn:Bn < W.heap.size)
  (hA:AxP n₀ Bt Bn L6 x a W) (hQo:¬ LetsOut Q) (hK:∀ a' W',KeepsFrom B W W'→Kp n₀ Bt Bn W W'→(∃ L1,Strs (okP n₀ Bt Bn) L6 L1 (pre++[fix x]) W')→Q .normal a' W'):alR.wpIn { Fence.wide with round:=some l } n Tryz.prog Q a W:=by
 obtain⟨ha,hd,h6,L7,h7,m7,n7,l7,p7,ne7,c7⟩:=hA
 have h17:∀ L,L1=some L→L.b≠L7.b:=fun L e he=>by
  subst e
  obtain⟨v,hv,cap,_,_,_,_,_,g5,g6,g7,g8,g9⟩:=hS.val
  obtain⟨u,hu,s,rfl,_⟩:=g9 0 g8.2
  obtain⟨u',hu',hr⟩:=c7 0 (by decide)
  obtain⟨_,_,_,_,_,⟨⟨e1,_⟩,_⟩,_⟩:=g5
  obtain⟨_,_,_,_,_,⟨⟨e2,_⟩,_⟩,_⟩:=m7
  rw [he,e1] at hu
  rw [e2,hu] at hu'
  cases hu';cases hr
 have hb1:∀ (id:Nat) (L:Loc),[some L6,L1,some L7][id]?=some (some L)→Mine W L∧okP n₀ Bt Bn L.b∧L.b < W.heap.size∧(id=0∧L=L6∨id=1∧L1=some L∧L.b≠L6.b∨id=2∧L=L7):=fun id L e=>by
  match id with
  | 0=>cases e;exact⟨hS.mine,hS.ge,hS.lt,.inl ⟨rfl,rfl⟩⟩
  | 1=>
   have e:L1=some L:=by simpa using e
   subst e
   obtain⟨v,hv,cap,_,_,_,_,_,g5,g6,g7,g8,_⟩:=hS.val
   exact⟨g5,g8.1,g6,.inr (.inl ⟨rfl,rfl,g7⟩)⟩
  | 2=>cases e;exact⟨m7,p7,l7,.inr (.inr ⟨rfl,rfl⟩)⟩
  | k+3=>simp at e
 have hSim:=Sim.fresh (G:=dM) (w:=W) (a:=a) (ls:=[some L6,L1,some L7]) (H:=H3 pre (fix x)) (tmps:=[(6,.ptr 0 0 1 0 0 0 1),(7,.ptr 2 0 64 0 0 0 64)]) rfl
  (fun id n r b e=>by
   match id with
   | 0=>cases e;exact hS.blk0 rfl rfl
   | 1=>cases e;exact hS.blk1 rfl
   | 2=>
    cases e
    exact { wf:=fun _=>trivial,size:=Wb x,lies:=.inr ⟨L7,rfl,n7,fun j hj=>by obtain⟨u,hu,hr⟩:=c7 j hj;exact⟨u,hu,aoK hr⟩,fun _ _=>m7,l7⟩,map:=(fun _ _ _ _ e=>by cases e),typ:=(fun t e=>by cases e) }
   | k+3=>simp [H3] at e)
  (fun id id' L L' e e' hb=>by
   obtain⟨_,_,_,h⟩:=hb1 id L e
   obtain⟨_,_,_,h'⟩:=hb1 id' L' e'
   rcases h with ⟨rfl,rfl⟩ | ⟨rfl,h,hn⟩ | ⟨rfl,rfl⟩ <;> rcases h' with ⟨rfl,rfl⟩ | ⟨rfl,h',hn'⟩ | ⟨rfl,rfl⟩
   ·rfl
   ·exact absurd hb.symm hn'
   ·exact absurd hb.symm ne7
   ·exact absurd hb hn
   ·rfl
   ·exact absurd hb (h17 _ h)
   ·exact absurd hb ne7
   ·exact absurd hb.symm (h17 _ h')
   ·rfl)
  (av8 hG hGn fun b hb=>by
   obtain⟨id,L,e,rfl⟩:=P5 hb
   exact(hb1 id L e).2.1.1)
  (fun t=>by
   simp only [EA]
   split
   ·rename_i e;subst e;rw [h6];exact .ptr 0 0 1 0 0 0 1 L6 rfl (fun _=>rfl) (by decide) (by rw [hS.n1];decide) (by decide)
   ·split
    ·rename_i e;subst e;rw [h7];exact .ptr 2 0 64 0 0 0 64 L7 rfl (fun _=>rfl) (by decide) (by rw [n7];decide) (by decide)
    ·exact .undef _) hd
 rw [ha] at hSim
 rw [aTD]
 have hrun:=aLw pre (fix x)
 rw [aK hlen,List.take_of_length_le (by rw [Wb];decide)] at hrun
 refine apN (V:=Kn) mixed tys XV hQo aTF hSim hrun fun y a' W' ρ' hy ho=>?_
 simp only [Option.some.injEq,LH,List.map_cons,List.map_nil,List.cons.injEq,and_true] at ho
 obtain⟨o0,oJ⟩:=ho
 have hr0:ρ' 0=some (some L6):=hy.ini 0 _ rfl
 refine hK a' W' (hy.keepsFrom (fun id L e=>(hb1 id L e).1) B) (hy.kp (fun id L e=>(hb1 id L e).2.1) hn₀ hbt hbn) (aBl (hy.bl 0 _ _ _ o0) (hy.bl 67 _ _ _ oJ) hr0 hS.ge (.inl (by simp)) fun L e=>⟨fun hb=>?_,?_⟩)
 ·have:=hy.sep 67 0 _ _ _ _ _ _ _ oJ o0 e hr0 hb
  cases this
 ·rcases hy.wo L.b ⟨67,_,_,L,oJ,e,rfl⟩ with h | h
  ·obtain⟨id,L',e1,e2⟩:=P5 h
   rw [← e2];exact(hb1 id L' e1).2.1
  ·exact⟨by omega,by omega,by omega⟩
theorem bav{p:Nat→Prop}{m:Nat}{L6:Loc}{w:World}{B:Nat}(hB:w.heap.size≤B):OwnFrom B (fun (pre:List Li) W=>(∃ L1,Strs p L6 L1 (pre.map fix) W)∧Below w.heap.size w W∧m≤W.heap.size):=
 OwnFrom.and (fun s A C row hs hg hr=>Strs.own (s.map fix) A C row hs hg fun r e=>(hr r e).2) (OwnFrom.and (ownFrom_below (Nat.le_refl _) hB) fun s A C row hs hg hr=>Nat.le_trans hs hg.size)
theorem a7z(m:Array Value)(t:Nat)(v:Value):(#[t].zip #[v]).foldl (fun t (p,v)=>t.setIfInBounds p v) m=m.setIfInBounds t v:=by kernel_rfl
theorem a8Y{a:Act}{w:World}:(execOp a.eval (Eu 1)).run Tryz.prog w=.ok (.value (a.tmps.getD 28 Go.undef)) w:=by
 simp only [execOp,aq3.1];rfl
theorem a8Z{a:Act}{w:World}:(execOp a.eval (Eu 2)).run Tryz.prog w=.ok (.value (.int .i64 0)) w:=by
 simp only [execOp,aq4.1];rfl
theorem a80{a:Act}{w:World}{v:Value}(h:(Instr.loadAt 28 (a.tmps.getD 6 Go.undef)).run Tryz.prog w=.ok v w):(execOp a.eval (Eu 0)).run Tryz.prog w=.ok (.value v) w:=by
 simp only [execOp,aq2.1];exact va h
set_option maxHeartbeats 4000000 in
theorem aLC{w:World}{num:Int}{tv:ByteArray}(hs:tv.size < 4611686018427387904)(hn:IntKind.i64.has num)(hG:GOk dM w nob)(hGn:∀ g r,dM g=some r→r.leafB=true→g < w.heap.size):
  CallsIn Fence.wide 3 Tryz.prog 40 #[.int .i64 num,.string tv] w fun e W'=>Below w.heap.size w W' ∧ ∃ v,e=.returned (.tuple #[v,.int .i64 (Jr.pack num (bytesOf tv)).2])∧aoJ w.heap.size (Jr.pack num (bytesOf tv)).1 v W':=by
 refine callsIn_of_wp_marks Tryz.func40 a7u trivial ?_
 obtain⟨a0,ha0⟩:∃ a0:Act,a0={ tmps:=#[Value.int .i64 num,.string tv]++Array.replicate (Tryz.f40.ntmps-(#[Value.int .i64 num,.string tv]:Array Value).size) Go.undef,defers:=[] }:=⟨_,rfl⟩
 rw [← ha0]
 have hsz:a0.tmps.size=29:=by rw [ha0];simp [Tryz.ntmps40]
 have hG0:GOk dM w (WrO (Qq []) (tagH 0 [])):=av8 hG hGn fun b hb=>by
  obtain⟨id,L,e,_⟩:=P5 hb
  simp at e
 have hS0:=Sim.fresh (G:=dM) (w:=w) (a:=a0) (ls:=[]) (H:=[]) (tmps:=[(0,.int .i64 num),(1,.str (bytesOf tv))]) rfl (fun id n r b e=>by simp at e) (fun id id' L L' e=>by simp at e) hG0
  (fun t=>by
   simp only [EA]
   split
   ·rename_i e;subst e;rw [ha0,Array.getD_eq_getD_getElem?,Array.getElem?_append_left (by simp)];exact .int _ _ hn
   ·split
    ·rename_i e;subst e;rw [ha0,Array.getD_eq_getD_getElem?,Array.getElem?_append_left (by simp)];exact .str tv hs
    ·exact .undef _) (by rw [ha0])
 rw [hsz] at hS0
 have hB:∀ {x:St} {a':Act} {w':World} {ρ':Rho},Sim (aoI []) dM w (WrO (Qq []) (tagH 0 [])) ρ' x a' w'→Below w.heap.size w w':=fun h=>⟨h.sm.1,h.sm.2.2,h.sm.2.1,h.sz,fun k hk=>h.fr k hk fun hb=>by
  obtain⟨id,L,e,_⟩:=P5 hb
  simp at e⟩
 by_cases hbad:num < 1∨4096 < num∨(8000:Int) < (bytesOf tv).length
 ·-- refused
  have hh:=a7v num (bytesOf tv)
  obtain⟨c,hc,hc2,hc1⟩:∃ c:Int,cond (decide (num < 1)) (some (1,29,[AV.ns,AV.int .i64 1])) (cond (decide (4096 < num)) (some (1,29,[AV.ns,AV.int .i64 1])) (cond (decide ((8000:Int) < (↑(bytesOf tv).length:Int))) (some (1,29,[AV.ns,AV.int .i64 4])) (some (0,29,[AV.ns,AV.int .i64 0]))))=some (1,29,[.ns,.int .i64 c])∧(Jr.pack num (bytesOf tv)).2=c∧(Jr.pack num (bytesOf tv)).1=[]:=by
   unfold Jr.pack
   by_cases h1:num < 1
   ·rw [aK h1,aK (by omega)];exact⟨1,rfl,rfl,rfl⟩
   ·by_cases h2:4096 < num
    ·rw [ba h1,aK h2,aK (by omega)];exact⟨1,rfl,rfl,rfl⟩
    ·have h3:(8000:Int) < (bytesOf tv).length:=by omega
     rw [ba h1,ba h2,aK h3,ba (by omega),aK h3];exact⟨4,rfl,rfl,rfl⟩
  rw [hc] at hh
  refine wpIn_seq (En (V:=Kn) mixed tys XV hS0 hh fun e x a1 w1 ρ1 hx he=>?_)
  cases e with
  | exit j=>cases he
  | ret=>cases he
  | normal=>
  refine wpIn_seq (En (V:=Kn) mixed tys XV hx he fun e x a2 w2 ρ2 hx2 he2=>?_)
  simp only [Option.some.injEq,Prod.mk.injEq,LK,List.map_cons,List.map_nil,List.cons.injEq,and_true] at he2
  obtain⟨he2,hnt,h4,h5⟩:=he2
  cases e with
  | exit j=>cases he2
  | normal=>cases he2
  | ret=>
  have t4:=hx2.tm 4;rw [h4] at t4
  have t5:=hx2.tm 5;rw [h5] at t5
  show LeavesInM _ _ _ _ _ _ _ _ _
  rw [hx2.df]
  refine⟨_,results_tmp2 (t:=4) (u:=5) (by kernel_rfl) _ _ _,hB hx2,a2.tmps.getD 4 Go.undef,?_,?_⟩
  ·rw [hc2]
   generalize a2.tmps.getD 5 Go.undef=u at t5
   cases t5
   rfl
  ·rw [hc1]
   generalize a2.tmps.getD 4 Go.undef=u at t4
   cases t4
   exact .inl ⟨rfl,none,rfl⟩
 have hlen:(bytesOf tv).length=tv.size:=by simp [bytesOf]
 have hs0:=a7w num (bytesOf tv)
 rw [ba (by omega),ba (by omega),ba (by omega)] at hs0
 have hpk:Jr.pack num (bytesOf tv)=(Jr.sectors num (bytesOf tv),0):=by
  unfold Jr.pack
  rw [ba (by omega),ba (by omega)]
 rw [hpk]
 refine wpIn_seq (En (V:=Kn) mixed tys XV hS0 hs0 fun e x a1 w1 ρ1 hx he=>?_)
 cases e with
 | exit j=>cases he
 | ret=>cases he
 | normal=>
 refine wpIn_seq (En (V:=Kn) mixed tys XV hx he fun e x a1 w1 ρ1 hx he=>?_)
 cases e with
 | exit j=>cases he
 | ret=>cases he
 | normal=>
 refine wpIn_seq (En (V:=Kn) mixed tys XV hx he fun e x a1 w1 ρ1 hx he=>?_)
 cases e with
 | exit j=>cases he
 | ret=>cases he
 | normal=>
 refine wpIn_seq (wpIn_seq (En (V:=Kn) mixed tys XV hx he fun e x a1 w1 ρ1 hx he=>?_))
 cases e with
 | exit j=>cases he
 | ret=>cases he
 | normal=>
 have he:=Option.some.inj he
 simp only [Prod.mk.injEq,LK,LH,List.map_cons,List.map_nil,List.cons.injEq,and_true] at he
 obtain⟨hnt,⟨h6,h21⟩,k6,kt,kn⟩:=he
 have hB1:=hB hx
 have hW0:∀ b,¬ WrO (Qq []) (tagH 0 []) b:=fun b hb=>by
  obtain⟨id,L,e,_⟩:=P5 hb
  simp at e
 have t6:=hx.tm 6;rw [h6] at t6
 have t21:=hx.tm 21;rw [h21] at t21
 have b6:=hx.bl _ _ _ _ k6
 have bt:=hx.bl _ _ _ _ kt
 have bn:=hx.bl _ _ _ _ kn
 rcases b6.lies with ⟨_,e⟩ | ⟨L6,e6,n6,c6,m6,l6⟩
 ·cases e
 rcases bt.lies with ⟨_,e⟩ | ⟨Lt,et,nt,ct,mt,lt⟩
 ·cases e
 rcases bn.lies with ⟨_,e⟩ | ⟨Ln,en,nn,cn,mn,ln⟩
 ·cases e
 have z6:L6.base=0:=by obtain⟨_,_,_,_,_,⟨⟨e,_⟩,_⟩,_⟩:=m6 rfl rfl;exact e
 have zt:Lt.base=0:=by obtain⟨_,_,_,_,_,⟨⟨e,_⟩,_⟩,_⟩:=mt rfl rfl;exact e
 have zn:Ln.base=0:=by obtain⟨_,_,_,_,_,⟨⟨e,_⟩,_⟩,_⟩:=mn rfl rfl;exact e
 obtain⟨vt,ht,rt⟩:=ct 0 (by decide)
 obtain⟨vn,hvn,rn⟩:=cn 0 (by decide)
 obtain⟨v6,h6v,r6⟩:=c6 0 (by decide)
 have rt:Rep w1 _ ρ1 (.str (bytesOf tv)) vt:=rt
 have rn:Rep w1 _ ρ1 (.int .i64 num) vn:=rn
 have r6:Rep w1 _ ρ1 .ns v6:=r6
 obtain⟨sv,rfl,hsv,hbs⟩:=av7 rt
 have hvn':vn=.int .i64 num:=by cases rn;rfl
 have h6':v6=.slice none 0 0:=by cases r6;rfl
 subst hvn';subst h6'
 rw [zt] at ht;rw [zn] at hvn
 have hlen2:(bytesOf sv).length=sv.size:=by simp [bytesOf]
 have hss:sv.size≤8000:=by rw [← hlen2,hbs];omega
 obtain⟨cvs,hcv,hcl,hcr⟩:=aLz (by decide) t21
 have hcv2:cvs = #[.pointer (some ⟨Lt.b,0,none⟩),.pointer (some ⟨Ln.b,0,none⟩)]:=by
  have e0:=JZ et (hcr 0 (by decide))
  have e1:=JZ en (hcr 1 (by decide))
  rw [zt] at e0;rw [zn] at e1
  have hcl:cvs.size=2:=hcl.symm
  apply Array.ext (by rw [hcl];rfl)
  intro i h1 h2
  match i,h1 with
  | 0,h1=>rw [Array.getD_eq_getD_getElem?,Array.getElem?_eq_getElem h1] at e0;exact e0
  | 1,h1=>rw [Array.getD_eq_getD_getElem?,Array.getElem?_eq_getElem h1] at e1;exact e1
  | k+2,h1=>omega
 subst hcv2
 have new:∀ {id n:Nat} {r:AV} {L:Loc},lkH id x.heap=.cells n r true→ρ1 id=some (some L)→w.heap.size≤L.b:=fun h1 h2=>(hx.wo _ ⟨_,_,_,_,h1,h2,rfl⟩).resolve_left (hW0 _)
 have d6t:L6.b≠Lt.b:=fun h=>by have:=hx.sep _ _ _ _ _ _ _ _ _ k6 kt e6 et h;cases this
 have d6n:L6.b≠Ln.b:=fun h=>by have:=hx.sep _ _ _ _ _ _ _ _ _ k6 kn e6 en h;cases this
 have hS1:Strs (okP w.heap.size Lt.b Ln.b) L6 none [] w1:=⟨m6 rfl rfl,n6,l6,⟨new k6 e6,d6t,d6n⟩,_,h6v,rfl,none,rfl⟩
 have hG1:∀ {W:World},Below w.heap.size w W→GOk dM W nob:=fun h=>ahe hG h hGn
 have hsec:(Jr.sectors num (bytesOf sv)).map fix=Jr.sectors num (bytesOf tv):=by
  rw [hbs]
  rw [show(Jr.sectors num (bytesOf tv)).map fix=(Jr.sectors num (bytesOf tv)).map id from List.map_congr_left fun s hs=>by
   simp only [Jr.sectors,List.mem_map] at hs
   obtain⟨k,_,rfl⟩:=hs
   exact aLy (Jr.sector_len _ _ _) (aiK (fun x hx=>by
    simp only [bytesOf,List.mem_map] at hx
    obtain⟨y,_,rfl⟩:=hx
    exact⟨by omega,by have:=y.toNat_lt;omega⟩) k),List.map_id]
 have hNs:(Jr.sectors num (bytesOf sv)).length≤200:=by
  rw [Jr.sectors_len,hbs]
  have:=(av6 (t:=bytesOf tv) (by omega)).2.1
  omega
 refine wpIn_block (wpIn_rangeFunc_ownH (F:=Fence.wide) (α:=List Int) rfl (by decide) (gf:=90) (lb:=#[.pointer (some ⟨Lt.b,0,none⟩),.pointer (some ⟨Ln.b,0,none⟩)]) hcv trivial (enters_of Tryz.func90 (by kernel_rfl) rfl)
  (aLA (n:=3-1) (Bt:=Lt.b) (Bn:=Ln.b) (n₀:=w.heap.size) (tv:=sv) (num:=num) (w:=w1) hss (by omega) (by omega) ht hvn (hG1 hB1) hB1.size hGn) Kp.trans
  (fun W l o o' hl ho hc hw=>⟨belowK_b hB1.size W l o o' hl ho hc hw,World.putObj_heap_other (by omega),World.putObj_heap_other (by omega)⟩) (Below.refl _ _) (fun _=>rfl)
  (fun pre W=>(∃ L1,Strs (okP w.heap.size Lt.b Ln.b) L6 L1 (pre.map fix) W)∧Below w.heap.size w W∧w1.heap.size≤W.heap.size) (fun _ _ _=>False) (bav hB1.size) (fun _ _ _ _ _ hs _ _=>hs.elim) ⟨⟨none,hS1⟩,hB1,Nat.le_refl _⟩
  (fun x a' W=>AxP w.heap.size Lt.b Ln.b L6 x a' W) (fun x a'=>aEa x a') ?assign ?body ?done ?stop)
 case assign=>
  rintro l pre x W K ⟨⟨L1,hS⟩,hBW,hsW⟩ hK
  have hz:(#[22].zip (aTH x)).foldl (fun t (p,v)=>t.setIfInBounds p v) a1.tmps=a1.tmps.setIfInBounds 22 (.agg ((fix x).map (Value.int .u8)).toArray):=a7z _ _ _
  rw [hz]
  refine aTI hS (hG1 hBW) hGn hBW.size (by omega) (by omega) (by simp only [Array.size_setIfInBounds];exact hx.nt.trans hnt) rfl ?_ ?_ fun a' W' kf kp hS' hA=>hK a' W' kf kp ⟨hS',hBW.trans kp.1,Nat.le_trans hsW kf.size⟩ hA
  ·rw [← JZ e6 t6]
   simp only [Array.getD_eq_getD_getElem?]
   rw [Array.getElem?_setIfInBounds_ne (by decide)]
  ·have h22:22 < a1.tmps.size:=by rw [hx.nt.trans hnt];decide
   rw [Array.getD_eq_getD_getElem?,Array.getElem?_setIfInBounds_self_of_lt h22];rfl
 case body=>
  rintro l pre x a' W hl _ ⟨⟨L1,hS⟩,hBW,hsW⟩ hA hlt
  refine wpIn_block (aTJ (B:=w1.heap.size) hS (by rw [List.length_map];omega) (hG1 hBW) hGn hBW.size (by omega) (by omega) hA (fun h=>by obtain⟨_,_,h⟩:=h;exact h) fun a' W' kf kp hS'=>⟨kf,kp,?_,hBW.trans kp.1,Nat.le_trans hsW kf.size⟩)
  rw [List.map_append];exact hS'
 case done=>
  rintro D xs W hD rfl ⟨⟨L1,hS⟩,hBW,hsW⟩ hK
  rw [hsec] at hS
  show Code.wpIn _ _ _ _ _ _ _
  obtain⟨v,hv,hsl⟩:=aD9 (n₀:=w.heap.size) (W':=W.putObj D (.deferred none)) hS (fun b h=>h.1) (fun b o ho hc=>World.putObj_heap_other (fun e=>by subst e;rw [hK] at ho;cases ho;cases hc))
  refine wpIn_seq ?_
  rw [a7x]
  refine wpIn_region ?_
  rw [aiJ]
  show wpOpsIn _ _ _ _ _ [0,1,2] _ _
  have hn1:a1.tmps.size=29:=hx.nt.trans hnt
  generalize hab:({ tmps:=a1.tmps,defers:={ target:=.collected D,args:=#[] } :: a1.defers }:Act)=ab
  have hbt:ab.tmps=a1.tmps:=by rw [← hab]
  have hbd:ab.defers={ target:=.collected D,args:=#[] } :: a1.defers:=by rw [← hab]
  refine Ar (ahh (by decide)) aq2.2.2 (by rw [aq2.1];intro c h;cases h) (a80 (v:=v) ?_) ?_
  ·rw [hbt,JZ e6 t6];exact aLB (V:=Kn) tys (by kernel_rfl) (by kernel_rfl) hv
  rw [aq2.2.1]
  refine Ar (ahh (by decide)) aq3.2.2 (by rw [aq3.1];intro c h;cases h) a8Y ?_
  rw [aq3.2.1,xj,if_pos ⟨rfl,by rw [hbt,hn1];decide⟩]
  refine Ar (ahh (by decide)) aq4.2.2 (by rw [aq4.1];intro c h;cases h) a8Z ?_
  rw [aq4.2.1]
  show Code.wpIn _ _ _ _ _ _ _
  refine wpIn_ret ?_
  show LeavesInM _ _ _ _ _ _ _ _ _
  have hd:(((ab.put (some 28) v).put (some 4) v).put (some 5) (.int .i64 0)).defers=[{ target:=.collected D,args:=#[] }]:=by
   show ab.defers=_
   rw [hbd,hx.df]
  rw [hd]
  refine⟨by simp,.inl ⟨_,_,rfl,run_takeDeferred hK,_,results_tmp2 (t:=4) (u:=5) (by kernel_rfl) _ _ _,?_,v,?_,hsl⟩⟩
  ·exact hBW.trans (belowK_b (w:=w) (Nat.le_refl _) W D _ _ (by have:=hB1.size;omega) hK rfl rfl)
  ·rw [xj,if_neg (fun e=>by omega),xj,if_pos ⟨rfl,by simp only [Act.put,Array.size_setIfInBounds];rw [hbt,hn1];decide⟩,xj,if_pos ⟨rfl,by simp only [Act.put,Array.size_setIfInBounds];rw [hbt,hn1];decide⟩]
 case stop=>
  rintro D c pre W _ _ h _
  exact h.elim
def r40:eP:=fun X H=>match X,H with
 | [(.int .i64 a0),(.str a1)],[]=>some (true,(.tup (.cons 0 (.vs (.rS (Jr.pack a0 a1).1) 0 1) (.cons 0 (.int .i64 (Jr.pack a0 a1).2) .nil))),[])
 | _,_=>none
theorem c40:CallOk Tryz.prog dM 40 r40 where
 there:=⟨_,Tryz.func40,by kernel_rfl,by kernel_rfl⟩
 does:=by
  intro A H r H' hr U w ρ args hU hs hA
  unfold r40 at hr
  split at hr <;> try contradiction
  rename_i num t
  simp only [Option.some.injEq,Prod.mk.injEq,true_and] at hr
  obtain⟨rfl,rfl⟩:=hr
  match args,hA with
  | ⟨[x,y]⟩,hA=>
   have hx:=hA.1
   have hy:=hA.2.1
   cases hx with | int _ _ hn=>
   cases hy with | str tv htv=>
   have hG:GOk dM w nob:=fun g r hg hl=>by
    obtain⟨h1,h2,h3,h4⟩:=hs.gl g r hg hl
    exact⟨h1,h2,fun h=>h,h4⟩
   refine(callsIn_wide.1 (aLC htv hn hG fun g r hg hl=>(hs.gl g r hg hl).2.1)).mono ?_
   rintro e w' ⟨hB,v,rfl,hsl⟩
   refine⟨_,ρ,rfl,hs.below hB,.tup _ _ rfl fun j hj=>?_⟩
   match j,hj with
   | 0,_=>
    refine hsl.rep fun b hb=>?_
    rcases hb with hb | ⟨id,n,r,L,h1,_,_⟩
    ·exact(hs.uo b (U.sub b hb)).1
    ·simp [tagH,lkH] at h1
   | 1,_=>
    refine .int .i64 _ ?_
    unfold Jr.pack
    cases decide (num < 1∨4096 < num)
    ·cases decide ((8000:Int) < (bytesOf tv).length)
     ·exact afO (n:=0) (by decide) (by decide)
     ·exact afO (n:=4) (by decide) (by decide)
    ·exact afO (n:=1) (by decide) (by decide)
end Go.Am
end