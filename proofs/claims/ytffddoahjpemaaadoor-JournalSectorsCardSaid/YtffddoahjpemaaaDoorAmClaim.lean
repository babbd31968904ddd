/- Part of a proof. -/
import Derived.Test.YtffddoahjpemaaaDoorAmOpen
import Derived.SliceStrings
set_option linter.unusedVariables false
set_option linter.unusedSimpArgs false
namespace Go.Am
open Go Go.ChangeShapes Go.WideShapes Go.RowKit
variable {P : Program} {H : Type} {enc : TypeId × Value → H} {W : World}
def Opens(P:Program)(t:TypeId)(S:AV→Prop):Prop:=∀ (H:Type) (enc:TypeId×Value→H) (W:World) (b0:Nat) (v:Value) (d:DataW H) (ps:List MemPlace),
 Value.okWide P W .any b0 t v→DataW.Trod enc P W 0 (fun _=>true) true t v d ps→(∀ n∈d.weights P t,n≤reachBytes) → ∃ X,S X∧Rep W W0 ρ0 X v
def isInt(k:IntKind)(X:AV):Prop:=∃ n,X=.int k n
def isStr(X:AV):Prop:=∃ s,X=.str s
theorem opens_int{t:TypeId}{k:IntKind}(ht:P.underlying t=some (.int k)):Opens P t (isInt k):=fun H enc W b0 v d ps hv hd _=>by
 obtain⟨n,_,h⟩:=open_int' ht hv hd
 exact⟨_,⟨n,rfl⟩,h _ _ _⟩
theorem opens_str{t:TypeId}(ht:P.underlying t=some .string):Opens P t isStr:=fun H enc W b0 v d ps hv hd hw=>by
 obtain⟨s,_,_,h⟩:=open_str' ht hv hd hw
 exact⟨_,⟨s,rfl⟩,h _ _ _⟩
def Fits:List (AV→Prop)→List AV→Prop
 | [],[]=>True
 | S :: l,X :: Xs=>S X∧Fits l Xs
 | _,_=>False
def OpensAll(P:Program):List TypeId→List (AV→Prop)→Prop
 | [],[]=>True
 | t :: ts,S :: l=>Opens P t S∧OpensAll P ts l
 | _,_=>False
theorem open_all:∀ {ts:List TypeId} {l:List (AV→Prop)} {vs:List Value} {ds:List (DataW H)} {ps:List MemPlace} {b0:Nat},OpensAll P ts l→DataW.TrodAll enc P W 0 (fun _=>true) true ts vs ds ps →
  (∀ (j:Nat) t v,ts[j]?=some t→vs[j]?=some v→Value.okWide P W .any b0 t v)→(∀ n∈DataW.weightsEach P ts ds,n≤reachBytes) → ∃ X,Fits l X∧Reps W W0 ρ0 X vs
 | [],[],[],_,_,_,_,h,_,_=>⟨[],trivial,trivial⟩
 | [],[],_ :: _,[],_,_,_,h,_,_=>h.elim
 | [],[],_ :: _,_ :: _,_,_,_,h,_,_=>h.elim
 | [],_ :: _,_,_,_,_,ho,_,_,_=>ho.elim
 | _ :: _,[],_,_,_,_,ho,_,_,_=>ho.elim
 | _ :: _,_ :: _,[],_,_,_,_,h,_,_=>h.elim
 | _ :: _,_ :: _,_ :: _,[],_,_,_,h,_,_=>h.elim
 | t :: ts,S :: l,v :: vs,d :: ds,ps,b0,ho,h,hv,hw=>by
  obtain⟨p,q,h1,h2,_⟩:=h
  simp only [DataW.weightsEach,List.mem_append] at hw
  obtain⟨X,hX,hR⟩:=ho.1 H enc W b0 v d p (hv 0 t v rfl rfl) h1 (fun n hn=>hw n (.inl hn))
  obtain⟨Xs,hXs,hRs⟩:=open_all ho.2 h2 (fun j t v g1 g2=>hv (j+1) t v (by simpa using g1) (by simpa using g2)) (fun n hn=>hw n (.inr hn))
  exact⟨X :: Xs,⟨hX,hXs⟩,hR,hRs⟩
theorem law_calls{G:Nat→Option AV}{f:Nat}{fn:Func}{s:ChangeSpec}{run:List AV→List Blk→Option (Bool×AV×List Blk)}{base:Nat}{args:Array Value}{ds gs:List (DataW H)}{before:List MemPlace}{tb:TypeId}{l:List (AV→Prop)}
  (hc:CallOk P G f run) (hG:GOk G W W0) (ho:OpensAll P fn.params.toList l) (hrun:∀ X,Fits l X→run X []=some (true,.bool true,[]))
  (hl:laidOutB P=true) (ht:(fn.params.toList.all fun t=>P.readableRec t&&decide (t < P.types.size))=true) (hr:fn.resultTypes = #[tb]) (hb:P.underlying tb=some .bool) (hvars:s.vars=[])
  (hfn:∀ ds:List (DataW H),ds.length=fn.params.size→s.fn H ds={ results:=[.lit (.bool true)],args:=ds })
  (hval:∀ (j:Nat) t v,fn.params[j]?=some t→args[j]?=some v→Value.okWide P W .any base t v) (hW:DataW.Whole enc P fn.params.toList s.vars false W args.toList ds gs before)
  (hsz:(DataW.weightsEach P (fn.params.toList++s.plain.varTypes P) (ds++gs)).all (· ≤ reachBytes)=true) :
  Calls P f args W fun e W'=>∃ v,e=.returned v∧s.post enc P fn false true false false W args v W':=by
 have hW':=hW
 obtain⟨p,q,hA,hV,rfl,hfz,hnd⟩:=hW'
 have hg:gs=[]:=by
  rw [hvars] at hV
  cases gs with
  | nil=>rfl
  | cons _ _=>exact hV.elim
 subst hg
 have hlen:ds.length=fn.params.size:=by
  have:∀ {ts:List TypeId} {vs:List Value} {ds:List (DataW H)} {ps:List MemPlace},DataW.TrodAll enc P W 0 (fun _=>true) true ts vs ds ps→ds.length=ts.length:=by
   intro ts
   induction ts with
   | nil=>intro vs ds ps h;cases vs <;> cases ds <;> first | rfl | exact h.elim
   | cons t ts ih=>
    intro vs ds ps h
    cases vs with
    | nil=>exact h.elim
    | cons v vs=>cases ds with
     | nil=>exact h.elim
     | cons d ds=>obtain⟨_,_,_,h2,_⟩:=h;simp [ih h2]
  rw [this hA];simp
 obtain⟨X,hX,hR⟩:=open_all (b0:=base) ho hA (fun j t v g1 g2=>hval j t v (by rw [← Array.getElem?_toList];exact g1) (by rw [← Array.getElem?_toList];exact g2)) (fun n hn=>by
  have:=List.all_eq_true.1 hsz n (by
   rw [List.append_nil]
   have key:∀ (ts us:List TypeId) (ds:List (DataW H)),n∈DataW.weightsEach P ts ds→n∈DataW.weightsEach P (ts++us) ds:=by
    intro ts
    induction ts with
    | nil=>intro us ds h;cases ds <;> simp [DataW.weightsEach] at h
    | cons t ts ih=>
     intro us ds h
     cases ds with
     | nil=>simp [DataW.weightsEach] at h
     | cons d ds=>
      simp only [DataW.weightsEach,List.cons_append,List.mem_append] at h ⊢
      exact h.imp id (ih us ds)
   exact key _ _ _ hn)
  simpa using this)
 refine(enter hc (hrun X hX) hG hR).mono ?_
 rintro e W' ⟨rfl,hB⟩
 exact⟨_,rfl,post_true hl ht hr hb hW hvars (by rw [List.append_nil];exact hfn ds hlen) hB⟩
end Go.Am
