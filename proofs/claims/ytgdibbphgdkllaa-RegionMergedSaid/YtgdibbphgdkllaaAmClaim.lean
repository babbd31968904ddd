/- Part of a proof. -/
import Derived.Test.YtgdibbphgdkllaaAmOpen
import Derived.SliceStrings
set_option linter.unusedVariables false
set_option linter.unusedSimpArgs false
namespace Go.Am
open Go Go.ChangeShapes Go.WideShapes Go.RowKit
variable {P : Program} {H : Type} {enc : TypeId × Value → H} {W : World}
def Opens(P:Program)(t:TypeId)(S:AV→Prop):Prop:=∀ (H:Type) (enc:TypeId×Value→H) (W:World) (b0:Nat) (v:Value) (d:DataW H) (ps:List MemPlace),
 Value.okWide P W .any b0 t v→DataW.Trod enc P W 0 (fun _=>true) true t v d ps→(∀ n∈d.weights P t,n≤reachBytes) → ∃ X,S X∧Rep W W0 ρ0 X v
def isInt(k:IntKind)(X:AV):Prop:=∃ n,X=.int k n
def isStr(X:AV):Prop:=∃ s,X=.str s
def isInts(k:IntKind)(X:AV):Prop:=∃ zs,X=.vs (.rI k zs) 0 1
theorem opens_int{t:TypeId}{k:IntKind}(ht:P.underlying t=some (.int k)):Opens P t (isInt k):=fun H enc W b0 v d ps hv hd _=>by
 obtain⟨n,_,h⟩:=open_int' ht hv hd
 exact⟨_,⟨n,rfl⟩,h _ _ _⟩
theorem add_of_cell{a:Addr}{v:Value}(h:W.cell? a=some v)(i:Nat):a=⟨a.block,a.off,none⟩∧a.add i=⟨a.block,a.off+i,none⟩:=by
 have hs:a.spot=none:=by
  unfold World.cell? at h
  split at h
  ·cases hsp:a.spot with
   | none=>rfl
   | some x=>rw [hsp] at h;simp at h
  ·contradiction
 obtain⟨b,o,s⟩:=a
 simp only at hs;subst hs
 refine⟨rfl,?_⟩
 unfold Addr.add;split
 ·rename_i h0;rw [h0];rfl
 ·rfl
theorem getD_take{α:Type}(l:List α)(n j:Nat)(z:α)(h:j < n):(l.take n).getD j z=l.getD j z:=by
 simp [List.getD_eq_getElem?_getD,List.getElem?_take,h]
theorem opens_ints{t e:TypeId}{k:IntKind}(ht:P.underlying t=some (.slice e))(he:P.underlying e=some (.int k))(hc:P.cellsOf e=1)(hb0:Nat.blt 0 (P.bytesOf e)=true):Opens P t (isInts k):=fun H enc W b0 v d ps hv hd hw=>by
 have hb:0 < P.bytesOf e:=by rw [Nat.blt_eq] at hb0;exact hb0
 obtain⟨a0,len0,cap0,rfl⟩:=okWide_slice ht hv
 obtain⟨fuel,hf⟩:=hd
 rcases open_ints ht he hc hf with ⟨h1,_⟩ | ⟨a,len,cap,zs,h1,_,hl,_,hz,hx,hcell,hwf⟩
 ·have h2:(Value.slice a0 len0 cap0)=.slice none 0 0:=by simpa [Value.cells] using h1
  rw [h2]
  exact⟨.vs (.rI k []) 0 1,⟨[],rfl⟩,.vs0 _ 1 0 none rfl rfl⟩
 ·have h2:(Value.slice a0 len0 cap0)=.slice (some a) len cap:=by simpa [Value.cells] using h1
  rw [h2]
  simp only [if_true] at hz
  simp only [Prod.mk.injEq] at hx
  by_cases h0:len=0
  ·subst h0
   exact⟨.vs (.rI k []) 0 1,⟨[],rfl⟩,.vs0 _ 1 cap _ rfl rfl⟩
  ·refine⟨.vs (.rI k (zs.take len)) 0 1,⟨_,rfl⟩,?_⟩
   have hlt:len≤reachBytes:=by
    have:=hw (((lits (H:=H) k (zs.take len)).length+(lits (H:=H) k (zs.drop len)).length)*P.bytesOf e) (by rw [hx.1];simp [DataW.weights,ht])
    simp only [lits,List.length_map,List.length_take,List.length_drop] at this
    have h3:=Nat.le_mul_of_pos_right (min len zs.length+(zs.length-len)) hb
    omega
   have hr:reachBytes < 4611686018427387904:=by decide
   have ha:=hcell 0 (by omega)
   rw [show a.add 0=a by simp [Addr.add]] at ha
   rw [(add_of_cell ha 0).1]
   refine .vs _ 0 1 len cap a.block a.off (fun i=>.int k (zs.getD i 0)) rfl (by omega) (by simp [AV.size];omega) (by omega) (.inl rfl) hl (by omega) (fun h=>h) (fun j hj=>?_) (fun j hj=>?_)
   ·rw [← (add_of_cell ha j).2];exact hcell j (by omega)
   ·simp only [AV.cell]
    rw [getD_take _ _ _ _ (by omega)]
    refine .int k _ (lit_has (hwf _ ?_))
    rw [List.getD_eq_getElem?_getD,List.getElem?_eq_getElem (by omega)]
    exact List.getElem_mem _
def Fits:List (AV→Prop)→List AV→Prop
 | [],[]=>True
 | S :: l,X :: Xs=>S X∧Fits l Xs
 | _,_=>False
def OpensAll(P:Program):List TypeId→List (AV→Prop)→Prop
 | [],[]=>True
 | t :: ts,S :: l=>Opens P t S∧OpensAll P ts l
 | _,_=>False
theorem open_all:∀ {ts:List TypeId} {l:List (AV→Prop)} {vs:List Value} {ds:List (DataW H)} {ps:List MemPlace} {b0:Nat},OpensAll P ts l→DataW.TrodAll enc P W 0 (fun _=>true) true ts vs ds ps →
  (∀ (j:Nat) t v,ts[j]?=some t→vs[j]?=some v→Value.okWide P W .any b0 t v)→(∀ n∈DataW.weightsEach P ts ds,n≤reachBytes) → ∃ X,Fits l X∧Reps W W0 ρ0 X vs
 | [],[],[],_,_,_,_,h,_,_=>⟨[],trivial,trivial⟩
 | [],[],_ :: _,[],_,_,_,h,_,_=>h.elim
 | [],[],_ :: _,_ :: _,_,_,_,h,_,_=>h.elim
 | [],_ :: _,_,_,_,_,ho,_,_,_=>ho.elim
 | _ :: _,[],_,_,_,_,ho,_,_,_=>ho.elim
 | _ :: _,_ :: _,[],_,_,_,_,h,_,_=>h.elim
 | _ :: _,_ :: _,_ :: _,[],_,_,_,h,_,_=>h.elim
 | t :: ts,S :: l,v :: vs,d :: ds,ps,b0,ho,h,hv,hw=>by
  obtain⟨p,q,h1,h2,_⟩:=h
  simp only [DataW.weightsEach,List.mem_append] at hw
  obtain⟨X,hX,hR⟩:=ho.1 H enc W b0 v d p (hv 0 t v rfl rfl) h1 (fun n hn=>hw n (.inl hn))
  obtain⟨Xs,hXs,hRs⟩:=open_all ho.2 h2 (fun j t v g1 g2=>hv (j+1) t v (by simpa using g1) (by simpa using g2)) (fun n hn=>hw n (.inr hn))
  exact⟨X :: Xs,⟨hX,hXs⟩,hR,hRs⟩
theorem law_calls{G:Nat→Option AV}{f:Nat}{fn:Func}{s:ChangeSpec}{run:List AV→List Blk→Option (Bool×AV×List Blk)}{base:Nat}{args:Array Value}{ds gs:List (DataW H)}{before:List MemPlace}{tb:TypeId}{l:List (AV→Prop)}
  (hc:CallOk P G f run) (hG:GOk G W W0) (ho:OpensAll P fn.params.toList l) (hrun:∀ X,Fits l X→run X []=some (true,.bool true,[]))
  (hl:laidOutB P=true) (ht:(fn.params.toList.all fun t=>P.readableRec t&&decide (t < P.types.size))=true) (hr:fn.resultTypes = #[tb]) (hb:P.underlying tb=some .bool) (hvars:s.vars=[])
  (hfn:∀ ds:List (DataW H),ds.length=fn.params.size→s.fn H ds={ results:=[.lit (.bool true)],args:=ds })
  (hval:∀ (j:Nat) t v,fn.params[j]?=some t→args[j]?=some v→Value.okWide P W .any base t v) (hW:DataW.Whole enc P fn.params.toList s.vars false W args.toList ds gs before)
  (hsz:(DataW.weightsEach P (fn.params.toList++s.plain.varTypes P) (ds++gs)).all (· ≤ reachBytes)=true) :
  Calls P f args W fun e W'=>∃ v,e=.returned v∧s.post enc P fn false true false false W args v W':=by
 have hW':=hW
 obtain⟨p,q,hA,hV,rfl,hfz,hnd⟩:=hW'
 have hg:gs=[]:=by
  rw [hvars] at hV
  cases gs with
  | nil=>rfl
  | cons _ _=>exact hV.elim
 subst hg
 have hlen:ds.length=fn.params.size:=by
  have:∀ {ts:List TypeId} {vs:List Value} {ds:List (DataW H)} {ps:List MemPlace},DataW.TrodAll enc P W 0 (fun _=>true) true ts vs ds ps→ds.length=ts.length:=by
   intro ts
   induction ts with
   | nil=>intro vs ds ps h;cases vs <;> cases ds <;> first | rfl | exact h.elim
   | cons t ts ih=>
    intro vs ds ps h
    cases vs with
    | nil=>exact h.elim
    | cons v vs=>cases ds with
     | nil=>exact h.elim
     | cons d ds=>obtain⟨_,_,_,h2,_⟩:=h;simp [ih h2]
  rw [this hA];simp
 obtain⟨X,hX,hR⟩:=open_all (b0:=base) ho hA (fun j t v g1 g2=>hval j t v (by rw [← Array.getElem?_toList];exact g1) (by rw [← Array.getElem?_toList];exact g2)) (fun n hn=>by
  have:=List.all_eq_true.1 hsz n (by
   rw [List.append_nil]
   have key:∀ (ts us:List TypeId) (ds:List (DataW H)),n∈DataW.weightsEach P ts ds→n∈DataW.weightsEach P (ts++us) ds:=by
    intro ts
    induction ts with
    | nil=>intro us ds h;cases ds <;> simp [DataW.weightsEach] at h
    | cons t ts ih=>
     intro us ds h
     cases ds with
     | nil=>simp [DataW.weightsEach] at h
     | cons d ds=>
      simp only [DataW.weightsEach,List.cons_append,List.mem_append] at h ⊢
      exact h.imp id (ih us ds)
   exact key _ _ _ hn)
  simpa using this)
 refine(enter hc (hrun X hX) hG hR).mono ?_
 rintro e W' ⟨rfl,hB⟩
 exact⟨_,rfl,post_true hl ht hr hb hW hvars (by rw [List.append_nil];exact hfn ds hlen) hB⟩
end Go.Am
