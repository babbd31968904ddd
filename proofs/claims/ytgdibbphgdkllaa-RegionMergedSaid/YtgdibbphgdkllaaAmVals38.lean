/- Part of a proof. -/
import Derived.Test.YtgdibbphgdkllaaAmReg
import Derived.Test.YtgdibbphgdkllaaAmWf
import Derived.RangeFuncBox
import Derived.RangeFuncLeaves
import Derived.RangeFuncNested
import Derived.RangeFuncBound
import Derived.RangeFuncCalls
import Derived.Shelf.Abstract
import Derived.WalkKit
import Derived.OwnWalkIn
import Derived.TacticsInMore
import Derived.LoopNIn
import Derived.LoopIn
import Derived.IntWalk
import Derived.Test.YtgdibbphgdkllaaAm38A
import Derived.Test.YtgdibbphgdkllaaAm38D
set_option linter.unusedSimpArgs false
set_option linter.unusedVariables false
section
/- Iterators: the parts of a code that the machine runs between two calls of yield; a fresh start of the machine over two variables that are read. -/
namespace Go.Am
open Go Go.RowKit
variable {P : Program} {V : Env} {U : Oth} {w0 : World} {W0 : Nat → Prop} {ρ : Rho} {s : St} {a : Act} {w : World}
def segs{α:Type}(V:Env)(A:Cuts)(f:St→α):List Code→St→Option α
 | [],s=>some (f s)
 | c :: l,s=>aexec V A c s fun e s'=>match e with
  | .normal=>segs V A f l s'
  | _=>none
theorem exec_in(hm:P.follows .mixedOrders=true)(h:TysOk P V.T)(hE:EOk P V){A:Cuts}{α:Type}{f:Ex→St→Option α}{o:α}{c:Code}{m:Nat}{Q:Exit→Act→World→Prop}(hs:Sim U V.G w0 W0 ρ s a w)(hx:aexec V A c s f=some o)
  (hQ:∀ e x a' w' ρ',Sim U V.G w0 W0 ρ' x a' w'→f e x=some o→Q (exOf e) a' w'):c.wpIn Fence.wide m P Q a w:=
 wpIn_wide.2 (aexec_ok hm h hE c s f ρ a w Q hs hx hQ)
theorem opsIn_value{ops:Array Oper}{i:Nat}{rest:List Nat}{o:Oper}{m:Nat}{Q:Exit→Act→World→Prop}{v:Value}(ho:ops[i]?=some o)(hg:o.guard=none)(hd:∀ c,o.op≠.defer c)
  (hr:(execOp a.eval o).run P w=.ok (.value v) w) (h:wpOpsIn Fence.wide m P ops Q rest (a.put o.dst v) w):wpOpsIn Fence.wide m P ops Q (i :: rest) a w:=by
 simp only [wpOpsIn,ho]
 rw [if_pos (by simp [Region.wanted,hg])]
 refine⟨fun _ _=>trivial,?_⟩
 rw [Oper.semAt_eq _ _ _ hd,hr]
 exact h
def nob:Nat→Prop:=fun _=>False
def rho2(L0 L1:Loc):Rho:=⟨fun id=>match id with
 | 0=>some (some L0)
 | 1=>some (some L1)
 | _=>none,fun _=>none⟩
def oth2(L0 L1:Loc):Oth:={ v:=nob,n:=nob,sub:=fun _ h=>h,ini:=rho2 L0 L1 }
def heap2(x0 x1:AV):List (Nat×Blk):=[(0,.cells 1 (.one x0) false),(1,.cells 1 (.one x1) false)]
theorem wr2{L0 L1:Loc}{x0 x1:AV}:Wr (oth2 L0 L1) (rho2 L0 L1) (heap2 x0 x1)=nob:=by
 funext b;apply propext
 constructor
 ·rintro(h | ⟨M,h⟩ | ⟨id,n,r,L,h,_⟩)
  ·exact h
  ·cases h
  ·simp only [heap2,lkH_put] at h
   split at h
   ·cases h
   ·split at h
    ·cases h
    ·simp [lkH] at h
 ·intro h;exact h.elim
theorem gok_below{G:Nat→Option AV}{w w':World}{W0:Nat→Prop}(h:GOk G w W0){n:Nat}(hb:Below n w w')(hn:∀ g r,G g=some r→r.leafB=true→g < n):GOk G w' nob:=fun g r hg hl=>by
 obtain⟨h1,h2,h3,vals,h4⟩:=h g r hg hl
 refine⟨h1,Nat.lt_of_lt_of_le h2 hb.size,fun h=>h,vals,fun j hj=>⟨?_,(h4 j hj).2⟩⟩
 exact(hb.cell (p:=⟨g,j,none⟩) (hn g r hg hl)).trans (h4 j hj).1
theorem Sim.two{G:Nat→Option AV}{L0 L1:Loc}{x0 x1:AV}{v0 v1:Value}{tmps:List (Nat×AV)}(hG:GOk G w nob)(hb0:L0.base=0∧L0.n=1∧L0.b < w.heap.size)(hb1:L1.base=0∧L1.n=1∧L1.b < w.heap.size)
  (hs0:x0.scal=true) (hs1:x1.scal=true) (hc0:w.cell? ⟨L0.b,0,none⟩=some v0) (hc1:w.cell? ⟨L1.b,0,none⟩=some v1) (hr0:∀ ρ,Rep w nob ρ x0 v0) (hr1:∀ ρ,Rep w nob ρ x1 v1)
  (ht:∀ t,Rep w nob (rho2 L0 L1) (lk t tmps) (a.tmps.getD t Go.undef)) (hd:a.defers=[]) :
  Sim (oth2 L0 L1) G w nob (rho2 L0 L1) { tmps:=tmps,heap:=heap2 x0 x1,next:=2,nt:=a.tmps.size,m:=2 } a w:=by
 have hlk:∀ id n r b,lkH id (heap2 x0 x1)=.cells n r b→(id=0∧n=1∧r=.one x0∧b=false)∨(id=1∧n=1∧r=.one x1∧b=false):=fun id n r b h=>by
  simp only [heap2,lkH_put] at h
  split at h
  ·rename_i e;cases h;exact .inl ⟨e,rfl,rfl,rfl⟩
  ·split at h
   ·rename_i e;cases h;exact .inr ⟨e,rfl,rfl,rfl⟩
   ·simp [lkH] at h
 have hW:Wr (oth2 L0 L1) (rho2 L0 L1) (heap2 x0 x1)=nob:=wr2
 exact {
  tm:=fun t=>by rw [hW];exact ht t
  nt:=rfl
  df:=hd
  bl:=fun id n r b h=>by
   rcases hlk id n r b h with ⟨rfl,rfl,rfl,rfl⟩ | ⟨rfl,rfl,rfl,rfl⟩
   ·exact { wf:=fun _=>hs0,size:=rfl,lies:=.inr ⟨L0,rfl,hb0.2.1,fun j hj=>⟨v0,by rw [show j=0 by omega,hb0.1];exact hc0,by rw [hW,show j=0 by omega];exact hr0 _⟩,(fun e=>by cases e),hb0.2.2⟩,map:=fun _ _ _ _ e=>(by cases e),typ:=fun t e=>by cases e }
   ·exact { wf:=fun _=>hs1,size:=rfl,lies:=.inr ⟨L1,rfl,hb1.2.1,fun j hj=>⟨v1,by rw [show j=0 by omega,hb1.1];exact hc1,by rw [hW,show j=0 by omega];exact hr1 _⟩,(fun e=>by cases e),hb1.2.2⟩,map:=fun _ _ _ _ e=>(by cases e),typ:=fun t e=>by cases e }
  sep:=fun id id' n r n' r' b' L L' h _ _ _ _=>by
   rcases hlk id n r true h with ⟨_,_,_,e⟩ | ⟨_,_,_,e⟩ <;> cases e
  dom:=fun id h=>by
   match id with
   | 0=>rfl
   | 1=>rfl
   | n+2=>exact absurd rfl h
  fr:=fun _ _ _=>rfl
  wo:=fun b h=>.inl (by rw [← hW];exact .inr h)
  sz:=Nat.le_refl _
  gl:=hG
  uo:=fun b h=>h.elim
  ug:=fun g r _ _ h=>h
  su:=fun id n r b L _ _ h=>h
  ini:=fun id x h=>h
  im:=fun id h=>by
   match id with
   | 0=>exact Nat.zero_lt_two
   | 1=>exact Nat.one_lt_two
   | n+2=>exact absurd rfl h
  sm:=WSame.refl _
  xk:=⟨(fun _ _ h=>by cases h),(fun _ _ _ _ _ _ _ h=>by cases h),(fun _ _ h=>by cases h)⟩ }
end Go.Am
end
section
/- Regions within a round of a range over a function, run by the machine; a fresh start over blocks of one's own; a variable that holds a slice of strings, in the world's words. -/
namespace Go.Am
open Go Go.RowKit
variable {P : Program} {V : Env} {U : Oth} {w0 : World} {W0 : Nat → Prop} {ρ : Rho} {s : St} {a : Act} {w : World}
def noDefer(o:Oper):Bool:=match o.op with
 | .defer _=>false
 | _=>true
theorem opsIn_of_ops{r:Option Nat}{n:Nat}{ops:Array Oper}{Q:Exit→Act→World→Prop}(hQ:¬ LetsOut Q)(hd:ops.all noDefer=true):
  ∀ (l:List Nat) (a:Act) (w:World),wpOps P ops Q l a w→wpOpsIn { Fence.wide with round:=r } n P ops Q l a w
 | [],a,w,h=>h
 | i :: rest,a,w,h=>by
  unfold wpOps at h
  unfold wpOpsIn
  cases ho:ops[i]? with
  | none=>
   simp only [ho] at h ⊢
   exact opsIn_of_ops hQ hd rest a w h
  | some o=>
   simp only [ho] at h ⊢
   split
   ·rename_i hw
    rw [if_pos hw] at h
    have h:=h.resolve_right (fun h=>hQ h.2)
    have hnd:∀ c,o.op≠.defer c:=fun c hc=>by
     obtain⟨hlt,he⟩:=Array.getElem?_eq_some_iff.1 ho
     have:=Array.all_eq_true.1 hd i hlt
     rw [he] at this
     unfold noDefer at this;rw [hc] at this;cases this
    refine⟨fun _ _=>trivial,?_⟩
    rw [Oper.semAt_eq _ _ _ hnd]
    unfold Oper.wp at h
    generalize (execOp a.eval o).run P w=res at h
    have nx:∀ a w,wpOps P ops Q rest a w→wpOpsIn { Fence.wide with round:=r } n P ops Q rest a w:=fun a w=>opsIn_of_ops hQ hd rest a w
    cases res with
    | halt x w'=>cases x <;> exact h
    | ok nxt w'=>
     cases nxt with
     | value v=>exact nx _ _ h
     | skip=>exact nx _ _ h
     | defer d=>exact nx _ _ h
     | enter f args=>
      have hc:=(callsIn_wide (n:=n-1)).2 h
      refine And.intro (fun e=>by cases e) (hc.mono fun e w'' he=>?_)
      cases e with
      | returned v=>exact nx _ _ he
      | panicked ch=>exact he
      | outgrown=>exact he
     | row row args=>
      refine And.intro (fun e=>by cases e) fun c cs _=>?_
      obtain⟨v,w'',r,st⟩:=h c cs
      exact⟨v,w'',nx _ _ r,stepsIn_wide.2 st⟩
     | _=>exact h.elim
   ·rename_i hw
    rw [if_neg hw] at h
    exact⟨fun _ _=>trivial,opsIn_of_ops hQ hd rest _ w h⟩
theorem region_in(hm:P.follows .mixedOrders=true)(h:TysOk P V.T)(hE:EOk P V){A:Cuts}{α:Type}{f:Ex→St→Option α}{o:α}{id:Nat}{ops:Array Oper}{dr:Bool}{r:Option Nat}{n:Nat}{Q:Exit→Act→World→Prop}(hQo:¬ LetsOut Q)(hd:ops.all noDefer=true)
  (hs:Sim U V.G w0 W0 ρ s a w) (hx:aexec V A (.region id ops dr) s f=some o) (hQ:∀ x a' w' ρ',Sim U V.G w0 W0 ρ' x a' w'→f .normal x=some o→Q .normal a' w'):(Code.region id ops dr).wpIn { Fence.wide with round:=r } n P Q a w:=by
 cases dr with
 | false=>
  refine wpIn_region (opsIn_of_ops hQo hd _ _ _ ?_)
  rw [aexec] at hx
  obtain⟨s,hs,ha⟩:=casK_ok hs hx
  have:=aops_ok (x:=o) (ops:=ops) h hE Q (fun s' a' w' ρ' h1 h2=>hQ s' a' w' ρ' h1 h2) ops.toList 0 s ρ a w (by simp) hs ha
  simpa using this
 | true=>
  refine wpIn_region_draw fun t=>opsIn_of_ops hQo hd _ _ _ ?_
  rw [aexec] at hx
  obtain⟨s,hs,ha⟩:=casK_ok hs hx
  have:=aopsD_ok (x:=o) (ops:=ops) h hE Q (fun s' a' w' ρ' h1 h2=>hQ s' a' w' ρ' h1 h2) (hs.heapEq (w':={ w with drawn:=w.drawn+1 }) rfl ⟨rfl,rfl,rfl⟩) ha
  simp only [Region.schedule,hm,Bool.true_or,if_true]
  exact wpAny_sound ops.size t _ a _ this
def rhoL(ls:List (Option Loc)):Rho:=⟨fun id=>ls[id]?,fun _=>none⟩
def othL(ls:List (Option Loc)):Oth:={ v:=nob,n:=nob,sub:=fun _ h=>h,ini:=rhoL ls }
theorem tag_cells{H:List Blk}{id n:Nat}{r:AV}{b:Bool}(h:lkH id (tagH 0 H)=.cells n r b):H[id]?=some (.cells n r b):=by
 rw [lkH_tag] at h
 simp only [Nat.zero_le,if_true,Nat.sub_zero] at h
 cases hh:H[id]? with
 | none=>rw [hh] at h;cases h
 | some x=>rw [hh] at h;rw [← h];rfl
theorem Sim.fresh{G:Nat→Option AV}{ls:List (Option Loc)}{H:List Blk}{tmps:List (Nat×AV)}(hl:ls.length=H.length)
  (hbl:∀ id n r b,H[id]?=some (.cells n r b)→BlkOk (othL ls) w (rhoL ls) (tagH 0 H) id n r b)
  (hsep:∀ (id id':Nat) (L L':Loc),ls[id]?=some (some L)→ls[id']?=some (some L')→L.b=L'.b→id=id') (hG:GOk G w (WrO (rhoL ls) (tagH 0 H)))
  (ht:∀ t,Rep w (Wr (othL ls) (rhoL ls) (tagH 0 H)) (rhoL ls) (lk t tmps) (a.tmps.getD t Go.undef)) (hd:a.defers=[]) :
  Sim (othL ls) G w (WrO (rhoL ls) (tagH 0 H)) (rhoL ls) { tmps:=tmps,heap:=tagH 0 H,next:=H.length,nt:=a.tmps.size,m:=H.length } a w where
 tm:=ht
 nt:=rfl
 df:=hd
 bl:=fun id n r b h=>hbl id n r b (tag_cells h)
 sep:=fun id id' n r n' r' b' L L' _ _ h1 h2 e=>hsep id id' L L' h1 h2 e
 dom:=fun id h=>by
  rw [hasKey_tag]
  have:id < ls.length:=by
   rcases Nat.lt_or_ge id ls.length with h' | h'
   ·exact h'
   ·exact absurd (List.getElem?_eq_none h') h
  simp;omega
 fr:=fun _ _ _=>rfl
 wo:=fun b h=>.inl h
 sz:=Nat.le_refl _
 gl:=hG
 uo:=fun b h=>h.elim
 ug:=fun g r _ _ h=>h
 su:=fun id n r b L _ _ h=>h
 ini:=fun id x h=>h
 im:=fun id h=>by
  rcases Nat.lt_or_ge id ls.length with h' | h'
  ·rw [hl] at h';exact h'
  ·exact absurd (List.getElem?_eq_none h') h
 sm:=WSame.refl _
 xk:=⟨(fun _ _ h=>by cases h),(fun _ _ _ _ _ _ _ h=>by cases h),(fun _ _ h=>by cases h)⟩
theorem wrL_of{ls:List (Option Loc)}{H:List Blk}{b:Nat}(h:WrO (rhoL ls) (tagH 0 H) b):∃ (id:Nat) (L:Loc),ls[id]?=some (some L)∧L.b=b:=by
 rcases h with ⟨M,h⟩ | ⟨id,n,r,L,_,h1,h2⟩
 ·cases h
 ·exact⟨id,L,h1,h2⟩
def IsStr(xs:List Int)(v:Value):Prop:=∃ s:ByteArray,v=.string s∧s.size < 4611686018427387904∧bytesOf s=xs
theorem IsStr.rep{xs:List Int}{v:Value}(h:IsStr xs v){W:Nat→Prop}:Rep w W ρ (.str xs) v:=by
 obtain⟨s,rfl,h1,rfl⟩:=h;exact .str s h1
structure Strs (p:Nat→Prop) (L0:Loc) (L1:Option Loc) (pre:List (List Int)) (W:World):Prop where
 mine:Mine W L0
 n1:L0.n=1
 lt:L0.b < W.heap.size
 ge:p L0.b
 val:∃ v,W.cell? ⟨L0.b,L0.base+0,none⟩=some v∧match L1 with
  | none=>pre=[] ∧ ∃ a,v=.slice a 0 0
  | some L=>∃ cap,v=.slice (some ⟨L.b,L.base,none⟩) pre.length cap∧L.n=pre.length∧pre.length≤cap∧L.base+cap≤L.S∧pre.length < 4611686018427387904∧Mine W L∧L.b < W.heap.size∧L.b≠L0.b∧(p L.b∧0 < pre.length) ∧
    ∀ j,j < pre.length → ∃ u,W.cell? ⟨L.b,L.base+j,none⟩=some u∧IsStr (pre.getD j []) u
variable {p : Nat → Prop} {L0 : Loc} {L1 : Option Loc} {pre : List (List Int)} {H : List (Nat × Blk)}
theorem Strs.blk0(h:Strs p L0 L1 pre w)(h0:ρ 0=some (some L0))(h1:ρ 1=some L1):BlkOk U w ρ H 0 1 (.one (.own 1 0 1)) true where
 wf:=fun _=>rfl
 size:=rfl
 lies:=.inr ⟨L0,h0,h.n1,fun j hj=>by
  obtain⟨v,hv,hm⟩:=h.val
  obtain rfl:j=0:=by omega
  refine⟨v,hv,?_⟩
  cases L1 with
  | none=>obtain⟨_,a,rfl⟩:=hm;exact .own0 1 1 a h1
  | some L=>
   obtain⟨cap,rfl,g1,g2,g3,g4,_⟩:=hm
   exact .own 1 0 1 pre.length cap L h1 (by omega) rfl g2 (by omega) (by decide) g4,(fun _ _=>h.mine),h.lt⟩
 map:=fun _ _ _ _ e=>by cases e
 typ:=fun t e=>by cases e
theorem Strs.blk1(h:Strs p L0 L1 pre w)(h1:ρ 1=some L1):BlkOk U w ρ H 1 pre.length (.rS pre) true where
 wf:=fun _=>trivial
 size:=rfl
 lies:=by
  obtain⟨v,hv,hm⟩:=h.val
  cases L1 with
  | none=>obtain⟨rfl,_⟩:=hm;exact .inl ⟨h1,rfl⟩
  | some L=>
   obtain⟨cap,rfl,g1,g2,g3,g4,g5,g6,_,_,g7⟩:=hm
   exact .inr ⟨L,h1,g1,fun j hj=>by obtain⟨u,hu,hs⟩:=g7 j hj;exact⟨u,hu,hs.rep⟩,fun _ _=>g5,g6⟩
 map:=fun _ _ _ _ e=>by cases e
 typ:=fun t e=>by cases e
theorem mine_heap{w w':World}{L:Loc}(h:Mine w L)(e:w'.heap[L.b]?=w.heap[L.b]?):Mine w' L:=by
 obtain⟨c,t,fr,h1,h2,h3,h4⟩:=h
 exact⟨c,t,fr,e.trans h1,h2,h3,fun j hj=>(frozen_of_heap e j).trans (h4 j hj)⟩
theorem mine_cells{w:World}{L:Loc}(h:Mine w L):∃ o:Obj,w.heap[L.b]?=some o∧o.isCells=true:=by
 obtain⟨c,t,fr,h1,_⟩:=h;exact⟨_,h1,rfl⟩
theorem Strs.heap{w w':World}(h:Strs p L0 L1 pre w)(hsz:w.heap.size≤w'.heap.size)(e0:w'.heap[L0.b]?=w.heap[L0.b]?)(e1:∀ L,L1=some L→w'.heap[L.b]?=w.heap[L.b]?):Strs p L0 L1 pre w':=by
 refine⟨mine_heap h.mine e0,h.n1,Nat.lt_of_lt_of_le h.lt hsz,h.ge,?_⟩
 obtain⟨v,hv,hm⟩:=h.val
 refine⟨v,(cell_of_heap e0 _).trans hv,?_⟩
 cases L1 with
 | none=>exact hm
 | some L=>
  obtain⟨cap,rfl,g1,g2,g3,g4,g5,g6,g7,g8,g9⟩:=hm
  exact⟨cap,rfl,g1,g2,g3,g4,mine_heap g5 (e1 L rfl),Nat.lt_of_lt_of_le g6 hsz,g7,g8,fun j hj=>by obtain⟨u,hu,hs⟩:=g9 j hj;exact⟨u,(cell_of_heap (e1 L rfl) _).trans hu,hs⟩⟩
theorem Strs.own:Own (fun (pre:List (List Int)) W=>∃ L1,Strs p L0 L1 pre W):=by
 rintro pre A B row ⟨L1,h⟩ hg hr
 have key:∀ {L:Loc},Mine A L→L.b < A.heap.size→B.heap[L.b]?=A.heap[L.b]?:=fun hm hlt=>by
  refine hg.block _ hlt fun e=>?_
  obtain⟨o,ho,hc⟩:=hr _ e.symm
  obtain⟨o',ho',hc'⟩:=mine_cells hm
  rw [ho] at ho';cases ho';rw [hc] at hc';cases hc'
 refine⟨L1,h.heap hg.size (key h.mine h.lt) fun L e=>?_⟩
 subst e
 obtain⟨v,hv,cap,_,_,_,_,_,g5,g6,_⟩:=h.val
 exact key g5 g6
end Go.Am
end
section
/- A variable that holds a slice of integers, in the world's words; slices.Values and what is collected from it. -/
namespace Go.Am
open Go Go.RowKit
variable {P : Program} {V : Env} {U : Oth} {w0 : World} {W0 : Nat → Prop} {ρ : Rho} {s : St} {a : Act} {w : World}
def IsI(x:Int)(v:Value):Prop:=v=.int .i64 x∧IntKind.i64.has x
theorem IsI.rep{x:Int}{v:Value}(h:IsI x v){W:Nat→Prop}:Rep w W ρ (.int .i64 x) v:=by
 obtain⟨rfl,h1⟩:=h;exact .int _ _ h1
theorem isI_of{x:Int}{v:Value}{W:Nat→Prop}(h:Rep w W ρ (.int .i64 x) v):IsI x v:=by
 cases h with | int _ _ h=>exact⟨rfl,h⟩
structure IntsL (p:Nat→Prop) (L0:Loc) (L1:Option Loc) (pre:List Int) (W:World):Prop where
 mine:Mine W L0
 n1:L0.n=1
 lt:L0.b < W.heap.size
 ge:p L0.b
 val:∃ v,W.cell? ⟨L0.b,L0.base+0,none⟩=some v∧match L1 with
  | none=>pre=[] ∧ ∃ a,v=.slice a 0 0
  | some L=>∃ cap,v=.slice (some ⟨L.b,L.base,none⟩) pre.length cap∧L.n=pre.length∧pre.length≤cap∧L.base+cap≤L.S∧pre.length < 4611686018427387904∧Mine W L∧L.b < W.heap.size∧L.b≠L0.b∧(p L.b∧0 < pre.length) ∧
    ∀ j,j < pre.length → ∃ u,W.cell? ⟨L.b,L.base+j,none⟩=some u∧IsI (pre.getD j 0) u
variable {p : Nat → Prop} {L0 : Loc} {L1 : Option Loc} {pre : List Int} {H : List (Nat × Blk)}
theorem IntsL.blk0(h:IntsL p L0 L1 pre w)(h0:ρ 0=some (some L0))(h1:ρ 1=some L1):BlkOk U w ρ H 0 1 (.one (.own 1 0 1)) true where
 wf:=fun _=>rfl
 size:=rfl
 lies:=.inr ⟨L0,h0,h.n1,fun j hj=>by
  obtain⟨v,hv,hm⟩:=h.val
  obtain rfl:j=0:=by omega
  refine⟨v,hv,?_⟩
  cases L1 with
  | none=>obtain⟨_,a,rfl⟩:=hm;exact .own0 1 1 a h1
  | some L=>
   obtain⟨cap,rfl,g1,g2,g3,g4,_⟩:=hm
   exact .own 1 0 1 pre.length cap L h1 (by omega) rfl g2 (by omega) (by decide) g4,(fun _ _=>h.mine),h.lt⟩
 map:=fun _ _ _ _ e=>by cases e
 typ:=fun t e=>by cases e
theorem IntsL.blk1(h:IntsL p L0 L1 pre w)(h1:ρ 1=some L1):BlkOk U w ρ H 1 pre.length (.rI .i64 pre) true where
 wf:=fun _=>trivial
 size:=rfl
 lies:=by
  obtain⟨v,hv,hm⟩:=h.val
  cases L1 with
  | none=>obtain⟨rfl,_⟩:=hm;exact .inl ⟨h1,rfl⟩
  | some L=>
   obtain⟨cap,rfl,g1,g2,g3,g4,g5,g6,_,_,g7⟩:=hm
   exact .inr ⟨L,h1,g1,fun j hj=>by obtain⟨u,hu,hs⟩:=g7 j hj;exact⟨u,hu,hs.rep⟩,fun _ _=>g5,g6⟩
 map:=fun _ _ _ _ e=>by cases e
 typ:=fun t e=>by cases e
theorem intsL_of{J:Nat}(b0:BlkOk U w ρ H 0 1 (.one (.own J 0 1)) true)(bJ:BlkOk U w ρ H J pre.length (.rI .i64 pre) true)(h0:ρ 0=some (some L0))(hge:p L0.b)(hp:0 < pre.length∨ρ J=some none)(hJ:∀ L,ρ J=some (some L)→L.b≠L0.b∧p L.b):∃ L1,IntsL p L0 L1 pre w:=by
 rcases b0.lies with ⟨e,_⟩ | ⟨L,e,g1,g2,g3,g4⟩
 ·rw [h0] at e;cases e
 rw [h0] at e;cases e
 obtain⟨v,hv,hr⟩:=g2 0 (by decide)
 have hr:Rep w (Wr U ρ H) ρ (.own J 0 1) v:=hr
 cases hr with
 | own0 _ _ a hl=>
  rcases bJ.lies with ⟨_,e⟩ | ⟨L,e,_⟩
  ·exact⟨none,⟨g3 rfl rfl,g1,g4,hge,_,hv,List.eq_nil_of_length_eq_zero e,a,rfl⟩⟩
  ·rw [hl] at e;cases e
 | own _ _ _ l cap LJ hlj hn hk hcap hS _ hm=>
  rcases bJ.lies with ⟨e,_⟩ | ⟨L,e,k1,k2,k3,k4⟩
  ·rw [hlj] at e;cases e
  rw [hlj] at e;cases e
  have hll:l=pre.length:=by omega
  subst hll
  have hp:=hp.resolve_right (fun e=>by rw [hlj] at e;cases e)
  refine⟨some LJ,⟨g3 rfl rfl,g1,g4,hge,_,hv,cap,rfl,k1,hcap,by omega,hm,k3 rfl rfl,k4,(hJ LJ hlj).1,⟨(hJ LJ hlj).2,hp⟩,fun j hj=>?_⟩⟩
  obtain⟨u,hu,hs⟩:=k2 j hj
  exact⟨u,hu,isI_of hs⟩
theorem IntsL.heap{w w':World}(h:IntsL p L0 L1 pre w)(hsz:w.heap.size≤w'.heap.size)(e0:w'.heap[L0.b]?=w.heap[L0.b]?)(e1:∀ L,L1=some L→w'.heap[L.b]?=w.heap[L.b]?):IntsL p L0 L1 pre w':=by
 refine⟨mine_heap h.mine e0,h.n1,Nat.lt_of_lt_of_le h.lt hsz,h.ge,?_⟩
 obtain⟨v,hv,hm⟩:=h.val
 refine⟨v,(cell_of_heap e0 _).trans hv,?_⟩
 cases L1 with
 | none=>exact hm
 | some L=>
  obtain⟨cap,rfl,g1,g2,g3,g4,g5,g6,g7,g8,g9⟩:=hm
  exact⟨cap,rfl,g1,g2,g3,g4,mine_heap g5 (e1 L rfl),Nat.lt_of_lt_of_le g6 hsz,g7,g8,fun j hj=>by obtain⟨u,hu,hs⟩:=g9 j hj;exact⟨u,(cell_of_heap (e1 L rfl) _).trans hu,hs⟩⟩
theorem IntsL.own:Own (fun (pre:List Int) W=>∃ L1,IntsL p L0 L1 pre W):=by
 rintro pre A B row ⟨L1,h⟩ hg hr
 have key:∀ {L:Loc},Mine A L→L.b < A.heap.size→B.heap[L.b]?=A.heap[L.b]?:=fun hm hlt=>by
  refine hg.block _ hlt fun e=>?_
  obtain⟨o,ho,hc⟩:=hr _ e.symm
  obtain⟨o',ho',hc'⟩:=mine_cells hm
  rw [ho] at ho';cases ho';rw [hc] at hc';cases hc'
 refine⟨L1,h.heap hg.size (key h.mine h.lt) fun L e=>?_⟩
 subst e
 obtain⟨v,hv,cap,_,_,_,_,_,g5,g6,_⟩:=h.val
 exact key g5 g6
theorem gok_of'{G:Nat→Option AV}{w:World}{W0:Nat→Prop}(h:GOk G w nob){n₀:Nat}(hn:∀ g r,G g=some r→r.leafB=true→g < n₀)(hW:∀ b,W0 b→n₀≤b):GOk G w W0:=fun g r hg hl=>by
 obtain⟨h1,h2,h3,h4⟩:=h g r hg hl
 exact⟨h1,h2,fun hb=>by have:=hW g hb;have:=hn g r hg hl;omega,h4⟩
theorem ptr_of_rep'{w:World}{W:Nat→Prop}{ρ:Rho}{id n:Nat}{L:Loc}{v:Value}(hr:ρ id=some (some L))(h:Rep w W ρ (.ptr id 0 n 0 0 0 n) v):v=.pointer (some ⟨L.b,L.base,none⟩):=by
 cases h with | ptr _ _ _ _ _ _ _ L' hl=>
 rw [hr] at hl;cases hl
 rfl
theorem fn_of_rep'{w:World}{W:Nat→Prop}{ρ:Rho}{f:Nat}{caps:AVs}{v:Value}(hf:f < 1073741824)(h:Rep w W ρ (.fn f caps) v):
  ∃ cvs:Array Value,v=.func (.func f) #[] cvs∧caps.len=cvs.size ∧ ∀ j,j < caps.len→Rep w W ρ (caps.nth j) (cvs.getD j Go.undef):=by
 generalize hg:f=g at h
 cases h with
 | fn _ _ cvs h1 h2 h3=>subst hg;exact⟨cvs,rfl,h2,h3⟩
 | yl l=>omega
theorem run_load1'{P:Program}{V:Env}(h:TysOk P V.T){t:Nat}(h1:(V.T.at t).d.isAgg=false)(h2:(V.T.at t).sz=1){w:World}{b off:Nat}{v:Value}(hc:w.cell? ⟨b,off,none⟩=some v):(Instr.loadAt t (.pointer (some ⟨b,off,none⟩))).run P w=.ok v w:=by
 simp [Instr.loadAt,Instr.sureAddr,loadVar,run_isAgg_one h h1 h2,hc]
theorem Sim.keepsFrom'{ls:List (Option Loc)}{H:List Blk}{G:Nat→Option AV}{w w':World}{ρ:Rho}{x:St}{a:Act}(h:Sim (othL ls) G w (WrO (rhoL ls) (tagH 0 H)) ρ x a w')(hm:∀ (id:Nat) (L:Loc),ls[id]?=some (some L)→Mine w L)(B:Nat):KeepsFrom B w w':=
 ⟨h.sz,fun k o _ hk ho=>by
  rw [← hk]
  refine h.fr k (Array.getElem?_eq_some_iff.1 hk).1 fun hb=>?_
  obtain⟨id,L,e1,rfl⟩:=wrL_of hb
  obtain⟨o',ho',hc⟩:=mine_cells (hm _ _ e1)
  rw [hk] at ho';cases ho';rw [ho] at hc;cases hc⟩
theorem Sim.kb{ls:List (Option Loc)}{H:List Blk}{G:Nat→Option AV}{w w':World}{ρ:Rho}{x:St}{a:Act}{n₀:Nat}(h:Sim (othL ls) G w (WrO (rhoL ls) (tagH 0 H)) ρ x a w')(hp:∀ (id:Nat) (L:Loc),ls[id]?=some (some L)→n₀≤L.b)(h0:n₀≤w.heap.size):Below n₀ w w':=
 ⟨h.sm.1,h.sm.2.2,h.sm.2.1,h.sz,fun k hk=>h.fr k (by omega) fun hb=>by
  obtain⟨id,L,e1,e2⟩:=wrL_of hb
  have:=hp _ _ e1;omega⟩
theorem zip_one'(m:Array Value)(t:Nat)(v:Value):(#[t].zip #[v]).foldl (fun t (p,v)=>t.setIfInBounds p v) m=m.setIfInBounds t v:=by kernel_rfl
def LKs(s:St)(l:List Nat):List AV:=l.map fun i=>lk i s.tmps
def LHs(s:St)(l:List Nat):List Blk:=l.map fun i=>lkH i s.heap
def asgOf':Code→Code
 | .rangeFunc _ _ a _=>a
 | _=>.skip
def bdyOf':Code→Code
 | .rangeFunc _ _ _ b=>b
 | _=>.skip
def opsOf':Code→Array Oper
 | .region _ ops _=>ops
 | _=>#[]
def HI2(pre:List Int):List Blk:=[.cells 1 (.one (.own 1 0 1)) true,.cells pre.length (.rI .i64 pre) true]
theorem IntsL.locs(h:IntsL p L0 L1 pre w):∀ (id:Nat) (L:Loc),[some L0,L1][id]?=some (some L)→Mine w L∧p L.b∧L.b < w.heap.size∧(id=0∧L=L0∨id=1∧L1=some L∧L.b≠L0.b):=fun id L e=>by
 match id with
 | 0=>cases e;exact⟨h.mine,h.ge,h.lt,.inl ⟨rfl,rfl⟩⟩
 | 1=>
  have e:L1=some L:=by simpa using e
  subst e
  obtain⟨v,hv,cap,_,_,_,_,_,g5,g6,g7,g8,_⟩:=h.val
  exact⟨g5,g8.1,g6,.inr ⟨rfl,rfl,g7⟩⟩
 | k+2=>simp at e
theorem IntsL.fresh{G:Nat→Option AV}{n₀:Nat}(h:IntsL (fun b=>n₀≤b) L0 L1 pre w){tmps:List (Nat×AV)}(hG:GOk G w nob)(hGn:∀ g r,G g=some r→r.leafB=true→g < n₀)
  (ht:∀ t,Rep w (Wr (othL [some L0,L1]) (rhoL [some L0,L1]) (tagH 0 (HI2 pre))) (rhoL [some L0,L1]) (lk t tmps) (a.tmps.getD t Go.undef)) (hd:a.defers=[]) :
  Sim (othL [some L0,L1]) G w (WrO (rhoL [some L0,L1]) (tagH 0 (HI2 pre))) (rhoL [some L0,L1]) { tmps:=tmps,heap:=tagH 0 (HI2 pre),next:=(HI2 pre).length,nt:=a.tmps.size,m:=(HI2 pre).length } a w:=
 Sim.fresh rfl (fun id n r b e=>by
   match id with
   | 0=>cases e;exact h.blk0 rfl rfl
   | 1=>cases e;exact h.blk1 rfl
   | k+2=>simp [HI2] at e)
  (fun id id' L L' e e' hb=>by
   obtain⟨_,_,_,h1⟩:=h.locs id L e
   obtain⟨_,_,_,h2⟩:=h.locs id' L' e'
   rcases h1 with ⟨rfl,rfl⟩ | ⟨rfl,h1,hn⟩ <;> rcases h2 with ⟨rfl,rfl⟩ | ⟨rfl,h2,hn'⟩
   ·rfl
   ·exact absurd hb.symm hn'
   ·exact absurd hb hn
   ·rfl)
  (gok_of' hG hGn fun b hb=>by
   obtain⟨id,L,e,rfl⟩:=wrL_of hb
   exact(h.locs id L e).2.1) ht hd
theorem Sim.adopt{G:Nat→Option AV}{id n:Nat}{r:AV}{L:Loc}{w':World}(h:Sim U G w W0 ρ s a w)(hb:Below w.heap.size w w')(hid:hasKey id s.heap=false)(hm:Mine w' L)(hge:w.heap.size≤L.b)(hlt:L.b < w'.heap.size)(hn:L.n=n)(hr:r.wf)(hs:r.size=n)(htag:r.tag=none)
  (hc:∀ j,j < n → ∃ v,w'.cell? ⟨L.b,L.base+j,none⟩=some v∧Rep w (Wr U ρ s.heap) ρ (r.cell j) v):Sim U G w W0 (ρ.set id (some L)) (s.setH id (.cells n r true)) a w':=by
 have hne:ρ id=none:=by
  cases hh:ρ id with
  | none=>rfl
  | some x=>have:=h.dom id (by rw [hh];simp);rw [hid] at this;cases this
 have hold:∀ b,b < w.heap.size→w'.heap[b]?=w.heap[b]?:=fun b hlt=>hb.block b hlt
 have hρ:∀ i x,ρ i=some x→(ρ.set id (some L)) i=some x:=fun i x hx=>by
  rw [Rho.set_other];exact hx
  rintro rfl;rw [hne] at hx;cases hx
 have wo:∀ b,WrO (ρ.set id (some L)) ((id,.cells n r true) :: s.heap) b→WrO ρ s.heap b∨w.heap.size≤b:=by
  rintro b (hx | ⟨i,n',r',L',h1,h2,h3⟩)
  ·exact .inl (.inl hx)
  rw [lkH_put] at h1
  by_cases hi:i=id
  ·subst hi;rw [Rho.set_same] at h2;cases h2;right;rw [← h3];exact hge
  ·rw [if_neg hi] at h1;rw [Rho.set_other _ _ hi] at h2;exact .inl (.inr ⟨i,n',r',L',h1,h2,h3⟩)
 refine h.step (fun b hb _=>hold b hb) wo hρ hb.size ⟨hb.os,hb.output,hb.tape⟩ ?_ ?_ ?_ ?_ (h.xk.step hb.size (fun _ _ h=>h) fun i n' r' c' L' h1 h2=>?_)
 ·intro i n' r' b hl
  rw [lkH_put] at hl
  by_cases hi:i=id
  ·subst hi
   rw [if_pos rfl] at hl;cases hl
   have hM:=wf_isM hr
   refine⟨fun _=>hr,hs,.inr ⟨_,Rho.set_same _ _ _,hn,fun j hj=>?_,fun _ _=>hm,hlt⟩,fun _ _ _ _ e=>absurd e (isM_no hM),fun t' ht=>by rw [htag] at ht;cases ht⟩
   obtain⟨v,h1,h2⟩:=hc j hj
   exact⟨v,h1,h2.step (fun b hb _=>hold b hb) wo hρ⟩
  ·rw [if_neg hi] at hl
   exact(h.bl i n' r' b hl).keep (fun b hb _=>hold b hb) wo hρ hb.size (fun L _ hlt=>hold _ hlt) (fun L _ c hc=>⟨hold c (h.xk.l _ _ hc),rfl⟩)
 ·intro i i' n1 r1 n2 r2 b2 L1 L2 h1 h2 h3 h4 h5
  rw [lkH_put] at h1 h2
  by_cases hi:i=id <;> by_cases hi':i'=id
  ·rw [hi,hi']
  ·subst hi
   rw [if_neg hi'] at h2;rw [Rho.set_same] at h3;rw [Rho.set_other _ _ hi'] at h4
   cases h3
   have:=h.loc_lt h2 h4
   omega
  ·subst hi'
   rw [if_neg hi] at h1;rw [Rho.set_same] at h4;rw [Rho.set_other _ _ hi] at h3
   cases h4
   have:=h.loc_lt h1 h3
   omega
  ·rw [if_neg hi] at h1;rw [if_neg hi'] at h2;rw [Rho.set_other _ _ hi] at h3;rw [Rho.set_other _ _ hi'] at h4
   exact h.sep i i' n1 r1 n2 r2 b2 L1 L2 h1 h2 h3 h4 h5
 ·intro i hi
  rw [hasKey_put]
  by_cases he:i=id
  ·simp [he]
  ·rw [Rho.set_other _ _ he] at hi;simp [h.dom i hi]
 ·intro i n1 r1 b1 L1 h1 h2 hU
  rw [lkH_put] at h1
  by_cases hi:i=id
  ·subst hi
   rw [Rho.set_same] at h2;cases h2
   have:=(h.uo _ hU).1
   omega
  ·rw [if_neg hi] at h1;rw [Rho.set_other _ _ hi] at h2
   exact h.su i n1 r1 b1 L1 h1 h2 hU
 ·rw [lkH_put] at h1
  by_cases hi:i=id
  ·subst hi;rw [Rho.set_same] at h2;cases h2;exact .inr hge
  ·rw [if_neg hi] at h1;rw [Rho.set_other _ _ hi] at h2;exact .inl ⟨i,n',r',c',L',h1,h2,rfl⟩
def runAppV(f:Nat):List AV→List Blk→Option (Bool×AV×List Blk)
 | [.ns,.fn g (.cons 0 (.ptr 0 0 1 0 0 0 1) .nil)],[.cells 1 (.one (.vs (.rI .i64 l) 0 1)) b]=>match Nat.beq g f with
  | true=>some (decide (l.length < 1073740000),.own 1 0 1,[.cells 1 (.one (.vs (.rI .i64 l) 0 1)) b,.cells l.length (.rI .i64 l) true])
  | false=>none
 | _,_=>none
end Go.Am
end
section
/- slices.Values over a variable that holds a slice of integers. -/
namespace Go.Proofs
open Go.RowKit Go.Shelf
attribute [local go_sem] Oper.semAt_some
set_option maxRecDepth 100000 in
set_option maxHeartbeats 2000000 in
theorem Try.values1_in(F:Fence)(n:Nat)(h7:F.fn 82)(hro:F.round=none)(hn:1≤n)(l Bs Bo n₀ b off len cap:Nat)(zs:List Int)(g:Int→Int)(f:Nat→Int)(hg:∀ k,k < len→g (f k)=f k)(htk:∀ k,k < len→zs.take k++[f k]=zs.take (k+1))(htl:∀ k,k≤len→(zs.take k).length=k)(hlz:zs.take len=zs)(hreach:len*8≤140737488351232)(hb:b < n₀)(J Jx:List Int→World→Prop)
  (hY:∀ pre x W,J pre W→pre.length < len→YieldAt F (n-1) Try.prog l #[.int .i64 (g x)] W fun e W'=>
   (e=.returned (.bool true)∧J (pre++[x]) W'∧Below n₀ W W')∨(e=.returned (.bool false)∧Jx (pre++[x]) W'))
  (W:World) (hBs:W.cell? ⟨Bs,Bo,none⟩=some (.slice (some ⟨b,off,none⟩) len cap)) (hc:∀ j,j < len→W.cell? ⟨b,off+j,none⟩=some (.int .i64 (f j))) (h0:J [] W) :
  CallsIn F n Try.prog 82 #[.func (.yield l) #[] #[],.pointer (some ⟨Bs,Bo,none⟩)] W fun e W'=>(∃ v,e=.returned v) ∧
   (J zs W'∨(∃ pre,pre <+: zs∧Jx pre W')):=by
 refine callsIn_of_wp Try.func82 rfl h7 ?_ hro
 simp only [Try.ntmps82,List.size_toArray,List.length_cons,List.length_nil,Nat.reduceAdd,Nat.reduceSub,Array.replicate_succ,Array.replicate_zero,List.push_toArray,List.append_toArray,List.nil_append,List.cons_append]
 gi_wp2
 gi_loopw [7] (fun i wr=>∃ k:Nat,k≤len∧i=.int .i64 k∧J (zs.take k) wr∧Below n₀ W wr)
  (fun i _=>len-(intOf i).toNat)
 case atStart=>exact⟨0,Nat.zero_le _,rfl,h0,Below.refl _ _⟩
 case round=>
  obtain⟨k,hk,rfl,hJs,hnx⟩:=hrel
  have hcx:k < len→wr.cell? ⟨b,off+k,none⟩=some (.int .i64 (f k)):=fun h=>(hnx.cell (p:=⟨b,off+k,none⟩) hb).trans (hc k h)
  by_cases hlt:k < len
  ·have hYk:=hY _ (f k) wr hJs (by rw [htl k hk];exact hlt)
   rw [hg k hlt] at hYk
   obtain⟨fn,tmps,assign,body,hy,hR⟩:=hYk
   have hcx':=hcx hlt
   gi_wp2
   refine hR.mono ?_
   rintro e W3 (⟨rfl,hJ3,hk3⟩ | ⟨rfl,hJx3⟩)
   ·gi_wp2
    go_roundw
    case rel=>exact⟨k+1,by omega,by simp,by rw [← htk k hlt];exact hJ3,hnx.trans hk3⟩
    case measure=>simp [intOf];omega
   ·gi_wp2
    refine bodyPost_ret (results_none rfl _ _ _) rfl ?_
    exact⟨⟨_,rfl⟩,.inr ⟨_,by rw [htk k hlt];exact List.take_prefix _ _,hJx3⟩⟩
  ·obtain rfl:k=len:=by omega
   gi_wp2
   go_end0
   exact⟨⟨_,rfl⟩,.inl (by rw [hlz] at hJs;exact hJs)⟩
set_option maxRecDepth 100000 in
set_option maxHeartbeats 1000000 in
theorem Try.values1_nil_in(F:Fence)(n:Nat)(h7:F.fn 82)(hro:F.round=none)(l Bs Bo:Nat)(a:Option Addr)(cap:Nat)(J:List Int→World→Prop)(W:World)(hBs:W.cell? ⟨Bs,Bo,none⟩=some (.slice a 0 cap))(h0:J [] W):
  CallsIn F n Try.prog 82 #[.func (.yield l) #[] #[],.pointer (some ⟨Bs,Bo,none⟩)] W fun e W'=>(∃ v,e=.returned v)∧J [] W':=by
 refine callsIn_of_wp Try.func82 rfl h7 ?_ hro
 simp only [Try.ntmps82,List.size_toArray,List.length_cons,List.length_nil,Nat.reduceAdd,Nat.reduceSub,Array.replicate_succ,Array.replicate_zero,List.push_toArray,List.append_toArray,List.nil_append,List.cons_append]
 gi_wp2
 gi_loopw [7] (fun i wr=>i=.int .i64 0∧J [] wr) (fun _ _=>0)
 case atStart=>exact⟨rfl,h0⟩
 case round=>
  obtain⟨rfl,hJs⟩:=hrel
  gi_wp2
  go_end0
  exact⟨⟨_,rfl⟩,hJs⟩
def Try.Ints(n₀:Nat)(W:World)(sv:Value)(zs:List Int):Prop:=
 ((∃ a cap,sv=.slice a 0 cap)∧zs=[]) ∨ ∃ b off cap,sv=.slice (some ⟨b,off,none⟩) zs.length cap∧b < n₀ ∧ ∀ j,j < zs.length→W.cell? ⟨b,off+j,none⟩=some (.int .i64 (zs[j]?.getD 0))
theorem Try.Ints.below{n₀:Nat}{A B:World}(h:Below n₀ A B){sv:Value}{zs:List Int}:Try.Ints n₀ A sv zs→Try.Ints n₀ B sv zs
 | .inl e=>.inl e
 | .inr ⟨b,off,cap,e,hb,hc⟩=>.inr ⟨b,off,cap,e,hb,fun j hj=>(h.cell (p:=⟨b,off+j,none⟩) hb).trans (hc j hj)⟩
set_option maxHeartbeats 1000000 in
theorem Try.values_stops(F:Fence)(n:Nat)(h7:F.fn 82)(hro:F.round=none)(hn:1≤n)(Bs Bo n₀:Nat)(sv:Value)(zs:List Int)(g:Int→Int)(hg:∀ x∈zs,g x=x)(hreach:zs.length*8≤140737488351232)(w:World)(hBs:Bs < n₀)(hn₀:n₀≤w.heap.size)
  (hc:w.cell? ⟨Bs,Bo,none⟩=some sv) (hI:Try.Ints n₀ w sv zs) :
  SeqStopsK F n Try.prog 82 #[.pointer (some ⟨Bs,Bo,none⟩)] (fun x:Int=>#[Value.int .i64 (g x)]) (Below n₀) (fun ys=>ys=zs) (fun pre=>pre <+: zs) zs.length w:=fun l J Jx W hW _ _ hY h0=>by
 have hc':=(hW.cell (p:=⟨Bs,Bo,none⟩) (by show Bs < _;omega)).trans hc
 rcases hI.below (hW.mono hn₀) with ⟨⟨a,cap,rfl⟩,rfl⟩ | ⟨b,off,cap,rfl,hb,hcs⟩
 ·exact(Try.values1_nil_in F n h7 hro l Bs Bo a cap J W hc' h0).mono fun e W' ⟨he,hj⟩=>⟨he,.inl ⟨_,rfl,hj⟩⟩
 ·refine(Try.values1_in F n h7 hro hn l Bs Bo n₀ b off zs.length cap zs g (fun j=>zs[j]?.getD 0) (fun k hk=>by rw [List.getElem?_eq_getElem hk];exact hg _ (List.getElem_mem hk)) (fun k hk=>by rw [List.take_add_one,List.getElem?_eq_getElem hk];rfl) (fun k hk=>by rw [List.length_take];omega) (List.take_length ..) hreach hb J Jx hY W hc' hcs h0).mono ?_
  rintro e W' ⟨he,hj | ⟨pre,hk,hj⟩⟩
  ·exact⟨he,.inl ⟨_,rfl,hj⟩⟩
  ·exact⟨he,.inr ⟨_,hk,hj⟩⟩
end Go.Proofs
end
section
/- slices.AppendSeq(nil, slices.Values(l)): what is collected. -/
namespace Go.Am
open Go Go.Proofs Go.RowKit
def VX:Env:=mkEnv T38 G38 []
theorem eVX:EOk Try.prog VX:=eok_mk (by exact trivial)
def AX:Cuts:={ F:=0,at_:=fun _=>none,join:=fun _=>none }
noncomputable abbrev BX:Code:=bodyOf Try.f90
noncomputable def asgX:Code:=asgOf' (sub BX [1,0,1,0])
noncomputable def bdyX:Code:=sub (bdyOf' (sub BX [1,0,1,0])) [0]
theorem bodyX:Try.f90.body=some (.seq (sub BX [0]) (.seq (.seq (sub BX [1,0,0]) (.block 0 (.rangeFunc (.tmp 6) #[7] asgX (.block 1 bdyX)))) (.seq (sub BX [1,1,0]) .ret))):=by kernel_rfl
theorem bdyX_eq:bdyX=.region 3 (opsOf' bdyX) false:=by kernel_rfl
theorem bdyX_nd:(opsOf' bdyX).all noDefer=true:=by kernel_rfl
def stX(l:List Int):St:={ tmps:=[(0,.ns),(1,.fn 82 (.cons 0 (.ptr 0 0 1 0 0 0 1) .nil))],heap:=tagH 0 [.cells 1 (.one (.vs (.rI .i64 l) 0 1)) false],next:=1,nt:=13,m:=1 }
theorem s0X(l:List Int):segs VX AX (fun s=>(s.nt,LKs s [2,6],LHs s [0,1])) [sub BX [0],sub BX [1,0,0]] (stX l) =
  some (13,[.ptr 1 0 1 0 0 0 1,.fn 82 (.cons 0 (.ptr 0 0 1 0 0 0 1) .nil)],[.cells 1 (.one (.vs (.rI .i64 l) 0 1)) false,.cells 1 (.one .ns) true]):=by kernel_rfl
theorem bdyX_run(pre:List Int)(x:Int):aexec VX AX (.region 3 (opsOf' bdyX) false) { tmps:=[(2,.ptr 0 0 1 0 0 0 1),(5,.int .i64 x)],heap:=tagH 0 (HI2 pre),next:=(HI2 pre).length,nt:=13,m:=(HI2 pre).length } (fun _ s=>some (LHs s [0,50])) =
  cond (decide (pre.length+1 < 1073741824)) (some [.cells 1 (.one (.own 50 0 1)) true,.cells (pre++[x]).length (.rI .i64 (pre++[x])) true]) none:=by kernel_rfl
noncomputable def opsA:Array Oper:=opsOf' asgX
noncomputable def oA(i:Nat):Oper:=opsA.getD i default
theorem rA_eq:asgX=.region 2 opsA false:=by kernel_rfl
theorem opsA_size:opsA.size=1:=by kernel_rfl
theorem opsA_at{i:Nat}(h:i < 1):opsA[i]?=some (oA i):=by
 unfold oA
 rw [Array.getD_eq_getD_getElem?,Array.getElem?_eq_getElem (by rw [opsA_size];exact h)];rfl
theorem qA:(oA 0).op=.assign (.tmp 7)∧(oA 0).dst=some 5∧(oA 0).guard=none:=⟨by kernel_rfl,by kernel_rfl,by kernel_rfl⟩
noncomputable def opsE:Array Oper:=opsOf' (sub BX [1,1,0])
noncomputable def oE(i:Nat):Oper:=opsE.getD i default
theorem rE_eq:sub BX [1,1,0]=.region 4 opsE false:=by kernel_rfl
theorem opsE_size:opsE.size=2:=by kernel_rfl
theorem opsE_at{i:Nat}(h:i < 2):opsE[i]?=some (oE i):=by
 unfold oE
 rw [Array.getD_eq_getD_getElem?,Array.getElem?_eq_getElem (by rw [opsE_size];exact h)];rfl
theorem qE0:(oE 0).op=.load 22 (.tmp 2)∧(oE 0).dst=some 12∧(oE 0).guard=none:=⟨by kernel_rfl,by kernel_rfl,by kernel_rfl⟩
theorem qE1:(oE 1).op=.assign (.tmp 12)∧(oE 1).dst=some 4∧(oE 1).guard=none:=⟨by kernel_rfl,by kernel_rfl,by kernel_rfl⟩
theorem run_qA{a:Act}{w:World}:(execOp a.eval (oA 0)).run Try.prog w=.ok (.value (a.tmps.getD 7 Go.undef)) w:=by
 simp only [execOp,qA.1];rfl
theorem run_qE1{a:Act}{w:World}:(execOp a.eval (oE 1)).run Try.prog w=.ok (.value (a.tmps.getD 12 Go.undef)) w:=by
 simp only [execOp,qE1.1];rfl
theorem run_qE0{a:Act}{w:World}{v:Value}(h:(Instr.loadAt 22 (a.tmps.getD 2 Go.undef)).run Try.prog w=.ok v w):(execOp a.eval (oE 0)).run Try.prog w=.ok (.value v) w:=by
 simp only [execOp,qE0.1];exact run_v h
theorem getD_putA(a:Act)(d:Nat)(v:Value)(t:Nat):(a.put (some d) v).tmps.getD t Go.undef=if t=d∧d < a.tmps.size then v else a.tmps.getD t Go.undef:=by
 simp only [Act.put,Array.getD_eq_getD_getElem?,Array.getElem?_setIfInBounds]
 by_cases h:d=t
 ·subst h
  by_cases h2:d < a.tmps.size
  ·rw [if_pos rfl,if_pos h2,if_pos ⟨rfl,h2⟩];rfl
  ·rw [if_pos rfl,if_neg h2,if_neg (fun h=>h2 h.2),Array.getElem?_eq_none (by omega)]
 ·rw [if_neg h,if_neg (fun e=>h e.1.symm)]
abbrev wI:Int→Int:=IntKind.i64.wrap
def AxV(L2:Loc)(x:Int)(a:Act)(W:World):Prop:=(a.tmps.size=13∧a.defers=[])∧a.tmps.getD 2 Go.undef=.pointer (some ⟨L2.b,L2.base,none⟩)∧a.tmps.getD 5 Go.undef=.int .i64 (wI x)
theorem opsIn_valueR{P:Program}{a:Act}{w:World}{r:Option Nat}{ops:Array Oper}{i:Nat}{rest:List Nat}{o:Oper}{m:Nat}{Q:Exit→Act→World→Prop}{v:Value}(ho:ops[i]?=some o)(hg:o.guard=none)(hd:∀ c,o.op≠.defer c)
  (hr:(execOp a.eval o).run P w=.ok (.value v) w) (h:wpOpsIn { Fence.wide with round:=r } m P ops Q rest (a.put o.dst v) w):wpOpsIn { Fence.wide with round:=r } m P ops Q (i :: rest) a w:=by
 simp only [wpOpsIn,ho]
 rw [if_pos (by simp [Region.wanted,hg])]
 refine⟨fun _ _=>trivial,?_⟩
 rw [Oper.semAt_eq _ _ _ hd,hr]
 exact h
theorem asg_inX{n l:Nat}{L2:Loc}{x:Int}{a:Act}{W:World}{K:Act→World→Prop}(ha:a.tmps.size=13)(hd:a.defers=[])(h2:a.tmps.getD 2 Go.undef=.pointer (some ⟨L2.b,L2.base,none⟩))(h7:a.tmps.getD 7 Go.undef=.int .i64 (wI x))
  (hK:∀ a',AxV L2 x a' W→K a' W):asgX.wpIn { Fence.wide with round:=some l } n Try.prog (Exit.then K (fun _ _ _=>False)) a W:=by
 rw [rA_eq]
 refine wpIn_region ?_
 rw [opsA_size]
 show wpOpsIn _ _ _ _ _ [0] _ _
 refine opsIn_valueR (opsA_at (by decide)) qA.2.2 (by rw [qA.1];intro c h;cases h) run_qA ?_
 rw [qA.2.1]
 refine hK _ ⟨⟨by simp only [Act.put,Array.size_setIfInBounds];exact ha,hd⟩,?_,?_⟩
 ·rw [getD_putA,if_neg (fun e=>by omega)];exact h2
 ·rw [getD_putA,if_pos ⟨rfl,by omega⟩,h7]
theorem bdy_inX{n l n₀:Nat}{L2:Loc}{L1:Option Loc}{pre:List Int}{x:Int}{a:Act}{W:World}{Q:Exit→Act→World→Prop}{B:Nat}(hS:IntsL (fun b=>n₀≤b) L2 L1 pre W)(hlen:pre.length+1 < 1073741824)(hG:GOk G38 W nob)(hGn:∀ g r,G38 g=some r→r.leafB=true→g < n₀)(hn₀:n₀≤W.heap.size)
  (hA:AxV L2 x a W) (hQo:¬ LetsOut Q) (hK:∀ a' W',KeepsFrom B W W'→Below n₀ W W'→(∃ L1,IntsL (fun b=>n₀≤b) L2 L1 (pre++[wI x]) W')→Q .normal a' W'):bdyX.wpIn { Fence.wide with round:=some l } n Try.prog Q a W:=by
 obtain⟨⟨ha,hd⟩,h2,h5⟩:=hA
 have hSim:=hS.fresh (a:=a) (tmps:=[(2,.ptr 0 0 1 0 0 0 1),(5,.int .i64 (wI x))]) hG hGn
  (fun t=>by
   simp only [lk_put]
   split
   ·rename_i e;subst e;rw [h2];exact .ptr 0 0 1 0 0 0 1 L2 rfl (fun _=>rfl) (by decide) (by rw [hS.n1];decide) (by decide)
   ·split
    ·rename_i e;subst e;rw [h5];exact .int _ _ (wrap_has _ _)
    ·exact .undef _) hd
 rw [ha] at hSim
 rw [bdyX_eq]
 have hrun:=bdyX_run pre (wI x)
 rw [cond_pos hlen] at hrun
 refine region_in (V:=VX) mixed tys eVX hQo bdyX_nd hSim hrun fun y a' W' ρ' hy ho=>?_
 simp only [Option.some.injEq,LHs,List.map_cons,List.map_nil,List.cons.injEq,and_true] at ho
 obtain⟨o0,oJ⟩:=ho
 have hr0:ρ' 0=some (some L2):=hy.ini 0 _ rfl
 have hb1:=hS.locs
 refine hK a' W' (hy.keepsFrom' (fun id L e=>(hb1 id L e).1) B) (hy.kb (fun id L e=>(hb1 id L e).2.1) hn₀) (intsL_of (hy.bl 0 _ _ _ o0) (hy.bl 50 _ _ _ oJ) hr0 hS.ge (.inl (by simp)) fun L e=>⟨fun hb=>?_,?_⟩)
 ·have:=hy.sep 50 0 _ _ _ _ _ _ _ oJ o0 e hr0 hb
  cases this
 ·rcases hy.wo L.b (.inr ⟨50,_,_,L,oJ,e,rfl⟩) with h | h
  ·obtain⟨id,L',e1,e2⟩:=wrL_of h
   show n₀≤L.b
   rw [← e2];exact(hb1 id L' e1).2.1
  ·show n₀≤L.b;omega
theorem has_of_vs{w:World}{W:Nat→Prop}{ρ:Nat→Option (Option Loc)}{l:List Int}{v:Value}(h:Rep w W ρ (.vs (.rI .i64 l) 0 1) v):(∀ x∈l,IntKind.i64.has x)∧l.length < 4611686018427387904 ∧
  Try.Ints w.heap.size w v l:=by
 cases h with
 | vs0 _ _ cap a hr hn hl=>
  have:l=[]:=List.eq_nil_of_length_eq_zero hn
  subst this
  exact⟨fun x hx=>by simp at hx,by decide,.inl ⟨⟨a,cap,rfl⟩,rfl⟩⟩
 | vs _ _ _ k cap blk base vals hr h0 hn hp hk hcap hm hW hc h=>
  have hk:k=l.length:=by have:l.length=k*1:=hn;omega
  subst hk
  have key:∀ j (hj:j < l.length),vals j=.int .i64 l[j]∧IntKind.i64.has l[j]:=fun j hj=>by
   have hh:=h j (by omega)
   have e1:(AV.rI IntKind.i64 l).cell j=.int .i64 l[j]:=by
    show AV.int .i64 (l.getD j 0)=_
    rw [List.getD_eq_getElem?_getD,List.getElem?_eq_getElem hj];rfl
   rw [e1] at hh
   generalize vals j=u at hh ⊢
   cases hh with | int _ _ h=>exact⟨rfl,h⟩
  refine⟨fun x hx=>?_,hm,.inr ⟨blk,base,cap,rfl,block_lt_of_cell (hc 0 (by omega)),fun j hj=>?_⟩⟩
  ·obtain⟨j,hj,rfl⟩:=List.mem_iff_getElem.1 hx
   exact(key j hj).2
  ·rw [hc j (by omega),(key j hj).1,List.getElem?_eq_getElem hj];rfl
theorem wI_id{x:Int}(h:IntKind.i64.has x):wI x=x:=by
 simp only [IntKind.has,IntKind.min,IntKind.max,IntKind.signed,IntKind.bits] at h
 exact i64w (by simp at h;omega) (by simp at h;omega)
theorem wI_map{l:List Int}(h:∀ x∈l,IntKind.i64.has x):l.map wI=l:=by
 rw [show l.map wI=l.map id from List.map_congr_left fun x hx=>wI_id (h x hx),List.map_id]
set_option maxHeartbeats 4000000 in
theorem append_inX{w:World}{L:Loc}{l:List Int}{v:Value}{y:Value}(hl:l.length < 1073740000)(hv:w.cell? ⟨L.b,L.base,none⟩=some v)(hr:∀ W ρ,(∀ b,¬ W b)→Rep w W ρ (.vs (.rI .i64 l) 0 1) v)(hn:L.n=1)(hlt:L.b < w.heap.size)
  (hy:y=.func (.func 82) #[] #[.pointer (some ⟨L.b,L.base,none⟩)]) (hG:GOk G38 w nob) (hGn:∀ g r,G38 g=some r→r.leafB=true→g < w.heap.size) :
  CallsIn Fence.wide 3 Try.prog 90 #[.slice none 0 0,y] w fun e W'=>Below w.heap.size w W' ∧ ∃ v,e=.returned v ∧
   ((l=[] ∧ ∃ a,v=.slice a 0 0) ∨ ∃ LJ:Loc,∃ cap,v=.slice (some ⟨LJ.b,LJ.base,none⟩) l.length cap∧LJ.n=l.length∧l.length≤cap∧LJ.base+cap≤LJ.S∧Mine W' LJ∧w.heap.size≤LJ.b∧LJ.b < W'.heap.size ∧ ∀ j,j < l.length → ∃ u,W'.cell? ⟨LJ.b,LJ.base+j,none⟩=some u∧IsI (l.getD j 0) u):=by
 refine callsIn_of_wp_marks Try.func90 bodyX trivial ?_
 subst hy
 obtain⟨a0,ha0⟩:∃ a0:Act,a0={ tmps:=#[Value.slice none 0 0,.func (.func 82) #[] #[.pointer (some ⟨L.b,L.base,none⟩)]]++Array.replicate (Try.f90.ntmps-(#[Value.slice none 0 0,.func (.func 82) #[] #[.pointer (some ⟨L.b,L.base,none⟩)]]:Array Value).size) Go.undef,defers:=[] }:=⟨_,rfl⟩
 rw [← ha0]
 have hsz:a0.tmps.size=13:=by rw [ha0];simp [Try.ntmps90]
 have hno:∀ b,¬ WrO (rhoL [some L]) (tagH 0 [Blk.cells 1 (.one (.vs (.rI .i64 l) 0 1)) false]) b:=fun b hb=>by
  rcases hb with ⟨M,e⟩ | ⟨id,n,r,L',h1,_,_⟩
  ·cases e
  ·have h1:=tag_cells h1
   match id with
   | 0=>cases h1
   | k+1=>simp at h1
 have hno':∀ b,¬ Wr (othL [some L]) (rhoL [some L]) (tagH 0 [Blk.cells 1 (.one (.vs (.rI .i64 l) 0 1)) false]) b:=fun b hb=>hb.elim (fun h=>h) (hno b)
 have hc0:∀ j,j < 1 → ∃ v,w.cell? ⟨L.b,L.base+j,none⟩=some v∧Rep w (Wr (othL [some L]) (rhoL [some L]) (tagH 0 [Blk.cells 1 (.one (.vs (.rI .i64 l) 0 1)) false])) (rhoL [some L]).f ((AV.one (.vs (.rI .i64 l) 0 1)).cell j) v:=fun j hj=>by
  obtain rfl:j=0:=by omega
  exact⟨v,hv,hr _ _ hno'⟩
 have hS0:=Sim.fresh (G:=G38) (w:=w) (a:=a0) (ls:=[some L]) (H:=[.cells 1 (.one (.vs (.rI .i64 l) 0 1)) false]) (tmps:=[(0,.ns),(1,.fn 82 (.cons 0 (.ptr 0 0 1 0 0 0 1) .nil))]) rfl
  (fun id n r b e=>by
   match id with
   | 0=>
    cases e
    exact { wf:=fun _=>rfl,size:=rfl,lies:=.inr ⟨L,rfl,hn,fun j hj=>hc0 j hj,(fun h _=>by cases h),hlt⟩,map:=(fun _ _ _ _ e=>by cases e),typ:=(fun t e=>by cases e) }
   | k+1=>simp at e)
  (fun id id' L1 L2 e e' hb=>by
   match id,id' with
   | 0,0=>rfl
   | k+1,_=>simp at e
   | 0,k+1=>simp at e')
  (gok_of' hG hGn fun b hb=>absurd hb (hno b))
  (fun t=>by
   simp only [lk_put]
   split
   ·rename_i e;subst e;rw [ha0,Array.getD_eq_getD_getElem?,Array.getElem?_append_left (by simp)];exact .ns
   ·split
    ·rename_i e;subst e;rw [ha0,Array.getD_eq_getD_getElem?,Array.getElem?_append_left (by simp)]
     refine .fn 82 _ _ (by decide) rfl fun j hj=>?_
     match j,hj with
     | 0,_=>exact .ptr 0 0 1 0 0 0 1 L rfl (fun _=>rfl) (by decide) (by rw [hn];decide) (by decide)
    ·exact .undef _) (by rw [ha0])
 rw [hsz] at hS0
 have hB:∀ {x:St} {a':Act} {w':World} {ρ':Rho},Sim (othL [some L]) G38 w (WrO (rhoL [some L]) (tagH 0 [Blk.cells 1 (.one (.vs (.rI .i64 l) 0 1)) false])) ρ' x a' w'→Below w.heap.size w w':=fun h=>⟨h.sm.1,h.sm.2.2,h.sm.2.1,h.sz,fun k hk=>h.fr k hk (hno k)⟩
 obtain⟨hhas,hl62,hints⟩:=has_of_vs (hr nob (fun _=>none:Nat→Option (Option Loc)) (fun _ h=>h))
 have hs0:=s0X l
 refine wpIn_seq (exec_in (V:=VX) mixed tys eVX hS0 hs0 fun e x a1 w1 ρ1 hx he=>?_)
 cases e with
 | exit j=>cases he
 | ret=>cases he
 | normal=>
 refine wpIn_seq (wpIn_seq (exec_in (V:=VX) mixed tys eVX hx he fun e x a1 w1 ρ1 hx he=>?_))
 cases e with
 | exit j=>cases he
 | ret=>cases he
 | normal=>
 have he:=Option.some.inj he
 simp only [Prod.mk.injEq,LKs,LHs,List.map_cons,List.map_nil,List.cons.injEq,and_true] at he
 obtain⟨hnt,⟨h2,h6⟩,k0,k1⟩:=he
 have hB1:=hB hx
 have t2:=hx.tm 2;rw [h2] at t2
 have t6:=hx.tm 6;rw [h6] at t6
 have b1:=hx.bl _ _ _ _ k1
 rcases b1.lies with ⟨_,e⟩ | ⟨L2,e2,n2,c2,m2,l2⟩
 ·cases e
 obtain⟨v2,hv2,r2⟩:=c2 0 (by decide)
 have r2:Rep w1 _ ρ1 .ns v2:=r2
 have hv2':v2=.slice none 0 0:=by cases r2;rfl
 subst hv2'
 have hr0:ρ1 0=some (some L):=hx.ini 0 _ rfl
 obtain⟨cvs,hcv,hcl,hcr⟩:=fn_of_rep' (by decide) t6
 have hcv2:cvs = #[.pointer (some ⟨L.b,L.base,none⟩)]:=by
  have e0:=ptr_of_rep' hr0 (hcr 0 (by decide))
  have hcl:cvs.size=1:=hcl.symm
  apply Array.ext (by rw [hcl];rfl)
  intro i h1 h2
  match i,h1 with
  | 0,h1=>rw [Array.getD_eq_getD_getElem?,Array.getElem?_eq_getElem h1] at e0;exact e0
  | k+1,h1=>omega
 subst hcv2
 have new:w.heap.size≤L2.b:=(hx.wo _ (.inr ⟨_,_,_,_,k1,e2,rfl⟩)).resolve_left (hno _)
 have hS1:IntsL (fun b=>w.heap.size≤b) L2 none [] w1:=⟨m2 rfl rfl,n2,l2,new,_,hv2,rfl,none,rfl⟩
 have hG1:∀ {W:World},Below w.heap.size w W→GOk G38 W nob:=fun h=>gok_below hG h hGn
 refine wpIn_block (wpIn_rangeFunc_ownH (F:=Fence.wide) (α:=Int) rfl (by decide) (gf:=82) (lb:=#[.pointer (some ⟨L.b,L.base,none⟩)]) hcv trivial (enters_of Try.func82 (by kernel_rfl) rfl)
  (Try.values_stops Fence.wide (3-1) trivial rfl (by decide) L.b L.base w.heap.size v l wI (fun x hx=>wI_id (hhas x hx)) (by omega) w1 hlt hB1.size ((hB1.cell (p:=⟨L.b,L.base,none⟩) hlt).trans hv) (hints.below hB1)) belowK_t (belowK_b hB1.size) (Below.refl _ _) (fun _=>rfl)
  (fun pre W=>(∃ L1,IntsL (fun b=>w.heap.size≤b) L2 L1 (pre.map wI) W)∧Below w.heap.size w W∧w1.heap.size≤W.heap.size) (fun _ _ _=>False)
  (OwnFrom.and (fun s A C row hs hg hr=>IntsL.own (s.map wI) A C row hs hg fun r e=>(hr r e).2) (OwnFrom.and (ownFrom_below (Nat.le_refl _) hB1.size) fun s A C row hs hg hr=>Nat.le_trans hs hg.size)) (fun _ _ _ _ _ hs _ _=>hs.elim) ⟨⟨none,hS1⟩,hB1,Nat.le_refl _⟩
  (fun x a' W=>AxV L2 x a' W) (fun x a' _ _ _ _ hs _ _=>hs) ?assign ?body ?done ?stop)
 case assign=>
  rintro lp pre x W K ⟨⟨L1,hS⟩,hBW,hsW⟩ hK
  have hz:(#[7].zip #[Value.int .i64 (wI x)]).foldl (fun t (p,v)=>t.setIfInBounds p v) a1.tmps=a1.tmps.setIfInBounds 7 (.int .i64 (wI x)):=zip_one' _ _ _
  rw [hz]
  have hn1:a1.tmps.size=13:=hx.nt.trans hnt
  refine asg_inX (L2:=L2) (x:=x) (by simp only [Array.size_setIfInBounds];exact hn1) rfl ?_ ?_ fun a' hA=>hK a' W (KeepsFrom.refl _ _) (Below.refl _ _) ⟨⟨L1,hS⟩,hBW,hsW⟩ hA
  ·rw [← ptr_of_rep' e2 t2]
   simp only [Array.getD_eq_getD_getElem?]
   rw [Array.getElem?_setIfInBounds_ne (by decide)]
  ·have h7:7 < a1.tmps.size:=by rw [hn1];decide
   rw [Array.getD_eq_getD_getElem?,Array.getElem?_setIfInBounds_self_of_lt h7];rfl
 case body=>
  rintro lp pre x a' W hlp _ ⟨⟨L1,hS⟩,hBW,hsW⟩ hA hlt
  refine wpIn_block (bdy_inX (B:=w1.heap.size) hS (by rw [List.length_map];omega) (hG1 hBW) hGn hBW.size hA (fun h=>by obtain⟨_,_,h⟩:=h;exact h) fun a' W' kf kp hS'=>⟨kf,kp,?_,hBW.trans kp,Nat.le_trans hsW kf.size⟩)
  rw [List.map_append];exact hS'
 case done=>
  rintro D xs W hD rfl ⟨⟨L1,hS⟩,hBW,hsW⟩ hK
  rw [wI_map hhas] at hS
  obtain⟨v,hv,hm⟩:=hS.val
  show Code.wpIn _ _ _ _ _ _ _
  refine wpIn_seq ?_
  rw [rE_eq]
  refine wpIn_region ?_
  rw [opsE_size]
  show wpOpsIn _ _ _ _ _ [0,1] _ _
  have hn1:a1.tmps.size=13:=hx.nt.trans hnt
  generalize hab:({ tmps:=a1.tmps,defers:={ target:=.collected D,args:=#[] } :: a1.defers }:Act)=ab
  have hbt:ab.tmps=a1.tmps:=by rw [← hab]
  have hbd:ab.defers={ target:=.collected D,args:=#[] } :: a1.defers:=by rw [← hab]
  refine opsIn_value (opsE_at (by decide)) qE0.2.2 (by rw [qE0.1];intro c h;cases h) (run_qE0 (v:=v) ?_) ?_
  ·rw [hbt,ptr_of_rep' e2 t2];exact run_load1' (V:=VX) tys (by kernel_rfl) (by kernel_rfl) hv
  rw [qE0.2.1]
  refine opsIn_value (opsE_at (by decide)) qE1.2.2 (by rw [qE1.1];intro c h;cases h) run_qE1 ?_
  rw [qE1.2.1]
  show Code.wpIn _ _ _ _ _ _ _
  refine wpIn_ret ?_
  show LeavesInM _ _ _ _ _ _ _ _ _
  have hd:((ab.put (some 12) v).put (some 4) ((ab.put (some 12) v).tmps.getD 12 Go.undef)).defers=[{ target:=.collected D,args:=#[] }]:=by
   show ab.defers=_
   rw [hbd,hx.df]
  rw [hd]
  have hBD:Below w.heap.size w (W.putObj D (.deferred none)):=hBW.trans (belowK_b (w:=w) (Nat.le_refl _) W D _ _ (by have:=hB1.size;omega) hK rfl rfl)
  refine⟨by simp,.inl ⟨_,_,rfl,run_takeDeferred hK,_,results_tmp (t:=4) (by kernel_rfl) _ _ _,hBD,v,?_,?_⟩⟩
  ·rw [getD_putA,if_pos ⟨rfl,by simp only [Act.put,Array.size_setIfInBounds];rw [hbt,hn1];decide⟩,getD_putA,if_pos ⟨rfl,by rw [hbt,hn1];decide⟩]
  ·cases L1 with
   | none=>exact .inl hm
   | some LJ=>
    obtain⟨cap,rfl,g1,g2,g3,g4,g5,g6,g7,⟨g8,g8'⟩,g9⟩:=hm
    obtain⟨o,ho,hc⟩:=mine_cells g5
    have hk:(W.putObj D (.deferred none)).heap[LJ.b]?=W.heap[LJ.b]?:=World.putObj_heap_other (fun e=>by subst e;rw [hK] at ho;cases ho;cases hc)
    exact .inr ⟨LJ,cap,rfl,g1,g2,g3,mine_heap g5 hk,g8,Nat.lt_of_lt_of_le g6 (by simp),fun j hj=>by obtain⟨u,hu,hs⟩:=g9 j hj;exact⟨u,(cell_of_heap hk _).trans hu,hs⟩⟩
 case stop=>
  rintro D c pre W _ _ h _
  exact h.elim
theorem Sim.restate'{U:Oth}{G:Nat→Option AV}{w w0:World}{W0:Nat→Prop}{ρ:Rho}{s t:St}{a:Act}(hs:Sim U G w0 W0 ρ s a w)(e1:∀ d,lk d s.tmps=lk d t.tmps)(e2:∀ i,lkH i s.heap=lkH i t.heap)
  (e3:∀ i,hasKey i s.heap=hasKey i t.heap) (e4:s.nt=t.nt) (e5:s.m≤t.m):Sim U G w0 W0 ρ t a w:=by
 have e:Wr U ρ t.heap=Wr U ρ s.heap:=Wr_eqv fun id=>(e2 id).symm
 exact {
  tm:=fun d=>by rw [e,← e1 d];exact hs.tm d
  nt:=by rw [← e4];exact hs.nt
  df:=hs.df
  bl:=fun id n r b hl=>by
   rw [← e2 id] at hl
   have hb:=hs.bl id n r b hl
   refine⟨hb.wf,hb.size,?_,?_,hb.typ⟩ <;> rw [e]
   ·exact hb.lies
   ·exact hb.map
  sep:=fun id id' n r n' r' b' L L' h1 h2=>by rw [← e2] at h1 h2;exact hs.sep id id' n r n' r' b' L L' h1 h2
  dom:=fun id hid=>by rw [← e3];exact hs.dom id hid
  fr:=hs.fr
  wo:=fun b hb=>hs.wo b (by
   rcases hb with hx | ⟨id,n,r,L,h1,h2,h3⟩
   ·exact .inl hx
   ·exact .inr ⟨id,n,r,L,by rw [e2];exact h1,h2,h3⟩)
  sz:=hs.sz,gl:=hs.gl,uo:=hs.uo,ug:=hs.ug
  su:=fun id n r b L h1=>by rw [← e2] at h1;exact hs.su id n r b L h1
  ini:=hs.ini
  im:=fun id hid=>Nat.lt_of_lt_of_le (hs.im id hid) e5
  sm:=hs.sm
  xk:=⟨hs.xk.l,fun b M id n r c L hb h1=>by rw [← e2] at h1;exact hs.xk.s b M id n r c L hb h1,hs.xk.u⟩ }
theorem rep_vs_any{w:World}{W W':Nat→Prop}{ρ ρ':Nat→Option (Option Loc)}{l:List Int}{v:Value}(h:Rep w W ρ (.vs (.rI .i64 l) 0 1) v)(hW:∀ b,¬ W' b):Rep w W' ρ' (.vs (.rI .i64 l) 0 1) v:=by
 cases h with
 | vs0 _ _ cap a hr hn hl=>exact .vs0 _ 1 cap a hr hn hl
 | vs _ _ _ k cap blk base vals hr h0 hn hp hk hcap hm hW' hc h=>
  refine .vs _ 0 1 k cap blk base vals hr h0 hn hp hk hcap hm (hW _) hc fun j hj=>?_
  have hh:=h j hj
  have e1:(AV.rI IntKind.i64 l).cell j=.int .i64 (l.getD j 0):=rfl
  rw [e1] at hh ⊢
  generalize vals j=u at hh ⊢
  cases hh with | int _ _ h=>exact .int _ _ h
theorem cAppV90:CallOk Try.prog G38 90 (runAppV 82) where
 there:=⟨_,Try.func90,by kernel_rfl,by kernel_rfl⟩
 does:=by
  intro A H r H' hr U w ρ args hU hs hA
  unfold runAppV at hr
  split at hr <;> try contradiction
  rename_i g l b
  split at hr <;> try contradiction
  rename_i hg
  obtain rfl:=Nat.eq_of_beq_eq_true hg
  simp only [Option.some.injEq,Prod.mk.injEq,decide_eq_true_eq] at hr
  obtain⟨hl,rfl,rfl⟩:=hr
  match args,hA with
  | ⟨[x,y]⟩,hA=>
   have hx:=hA.1
   have hy:=hA.2.1
   have hx':x=.slice none 0 0:=by cases hx;rfl
   subst hx'
   have b0:=hs.bl 0 1 _ _ rfl
   rcases b0.lies with ⟨_,e⟩ | ⟨L,e,g1,g2,g3,g4⟩
   ·cases e
   obtain⟨v,hv,hrv⟩:=g2 0 (by decide)
   have hrv:Rep w _ ρ (.vs (.rI .i64 l) 0 1) v:=hrv
   have hv:w.cell? ⟨L.b,L.base,none⟩=some v:=hv
   obtain⟨cvs,hcv,hcl,hcr⟩:=fn_of_rep' (by decide) hy
   have hcv2:cvs = #[.pointer (some ⟨L.b,L.base,none⟩)]:=by
    have e0:=ptr_of_rep' e (hcr 0 (by decide))
    have hcl:cvs.size=1:=hcl.symm
    apply Array.ext (by rw [hcl];rfl)
    intro i h1 h2
    match i,h1 with
    | 0,h1=>rw [Array.getD_eq_getD_getElem?,Array.getElem?_eq_getElem h1] at e0;exact e0
    | k+1,h1=>omega
   subst hcv2
   have hG:GOk G38 w nob:=fun g r hg hl=>by cases hg
   refine(callsIn_wide.1 (append_inX hl hv (fun W ρ' hW=>rep_vs_any hrv hW) g1 g4 hcv hG fun g r hg hl=>by cases hg)).mono ?_
   rintro e' w' ⟨hB,v',rfl,hres⟩
   rcases hres with ⟨rfl,a,rfl⟩ | ⟨LJ,cap,rfl,k1,k2,k3,k4,k5,k6,k7⟩
   ·have h2:=(hs.below hB).newEmpty (V:=mkEnv T38 G38 []) (id:=1) (r:=.rI .i64 []) rfl trivial rfl
    refine⟨_,ρ.set 1 none,rfl,Sim.restate' h2.1 (fun _=>rfl) (fun i=>?_) (fun i=>?_) rfl (by show 1≤2;decide),.own0 1 1 a (Rho.set_same _ _ _)⟩
    ·show lkH i ((1,_) :: (0,_) :: [])=lkH i ((0,_) :: (1,_) :: [])
     simp only [lkH_put]
     by_cases h:i=0
     ·subst h;rfl
     ·by_cases h':i=1
      ·subst h';rfl
      ·simp [h,h']
    ·show hasKey i ((1,_) :: (0,_) :: [])=hasKey i ((0,_) :: (1,_) :: [])
     simp only [hasKey_put]
     by_cases h:i=0
     ·subst h;rfl
     ·by_cases h':i=1
      ·subst h';rfl
      ·simp [h,h']
   ·have h2:=hs.adopt (id:=1) (n:=l.length) (r:=.rI .i64 l) (L:=LJ) hB rfl k4 k5 k6 k1 trivial rfl rfl (fun j hj=>by obtain⟨u,hu,hi⟩:=k7 j hj;exact⟨u,hu,hi.rep⟩)
    refine⟨_,ρ.set 1 (some LJ),rfl,Sim.restate' h2 (fun _=>rfl) (fun i=>?_) (fun i=>?_) rfl (by show 1≤2;decide),.own 1 0 1 l.length cap LJ (Rho.set_same _ _ _) (by omega) rfl k2 (by omega) (by decide) (by omega)⟩
    ·show lkH i ((1,_) :: (0,_) :: [])=lkH i ((0,_) :: (1,_) :: [])
     simp only [lkH_put]
     by_cases h:i=0
     ·subst h;rfl
     ·by_cases h':i=1
      ·subst h';rfl
      ·simp [h,h']
    ·show hasKey i ((1,_) :: (0,_) :: [])=hasKey i ((0,_) :: (1,_) :: [])
     simp only [hasKey_put]
     by_cases h:i=0
     ·subst h;rfl
     ·by_cases h':i=1
      ·subst h';rfl
      ·simp [h,h']
end Go.Am
end