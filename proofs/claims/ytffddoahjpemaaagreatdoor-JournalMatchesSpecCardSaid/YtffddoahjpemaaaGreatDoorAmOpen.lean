/- Part of a proof. -/
import Derived.Test.YtffddoahjpemaaaGreatDoorAmWf
import Derived.ProofKit
import Derived.Handed
import Derived.SizedLaws
import Derived.Carry
import Derived.OpenShut
set_option linter.unusedVariables false
set_option linter.unusedSimpArgs false
namespace Go.Am
open Go Go.ChangeShapes Go.WideShapes Go.RowKit
variable {P : Program} {V : Env} {H : Type} {enc : TypeId × Value → H} {W : World} {base : Nat} {sp : Nat → Bool} {held : Bool}
def W0:Nat→Prop:=fun _=>False
def ρ0:Rho:=fun _=>none
def U0:Oth:={ v:=fun _=>False,n:=fun _=>False,sub:=fun _ h=>h,ini:=ρ0 }
theorem Sim.start{G:Nat→Option AV}(hG:GOk G W (WrO ρ0 (tagH 0 []))):Sim U0 G W (WrO ρ0 (tagH 0 [])) ρ0 (hst []) emptyAct W where
 tm:=fun t=>.undef _
 nt:=rfl
 df:=rfl
 bl:=fun id n r b h=>by simp [hst,tagH,lkH] at h
 sep:=fun id id' n r n' r' b' L L' h=>by simp [hst,tagH,lkH] at h
 dom:=fun id h=>absurd rfl h
 fr:=fun b _ _=>rfl
 wo:=fun b h=>.inl h
 sz:=Nat.le_refl _
 gl:=hG
 uo:=fun b h=>h.elim
 ug:=fun g r _ _ h=>h.elim
 su:=fun id n r b L h=>by simp [hst,tagH,lkH] at h
 ini:=fun id x h=>h
 im:=fun id h=>absurd rfl h
 sm:=WSame.refl _
theorem wr0:Wr U0 ρ0 (tagH 0 [])=W0:=by
 funext b;apply propext
 constructor
 ·rintro(h | ⟨id,n,r,L,h,_⟩)
  ·exact h
  ·simp [tagH,lkH] at h
 ·exact fun h=>h.elim
theorem enter{G:Nat→Option AV}{f:Nat}{run:List AV→List Blk→Option (Bool×AV×List Blk)}(hc:CallOk P G f run){X:List AV}{args:Array Value}(hr:run X []=some (true,.bool true,[]))
  (hG:GOk G W W0) (hX:Reps W W0 ρ0 X args.toList) :
  Calls P f args W fun e W'=>e=.returned (.bool true)∧Below W.heap.size W W':=by
 have hw:WrO ρ0 (tagH 0 [])=W0:=by
  funext b;apply propext
  exact⟨fun ⟨id,n,r,L,h,_⟩=>by simp [tagH,lkH] at h,fun h=>h.elim⟩
 refine(hc.does X [] _ _ hr U0 W ρ0 args rfl (Sim.start (by rw [hw];exact hG)) (by rw [wr0];exact hX)).mono ?_
 rintro e W' ⟨v,ρ',rfl,hs,hv⟩
 cases hv
 refine⟨rfl,⟨hs.sm.1,hs.sm.2.2,hs.sm.2.1,hs.sz,fun k hk=>?_⟩⟩
 exact hs.fr k hk (by rw [hw];exact fun h=>h)
theorem agc(hl:laidOutB P=true){W W':World}(hb:Below W.heap.size W W'):∀ {ts:List TypeId} {vs:List Value} {ds:List (DataW H)} {ps:List MemPlace},(ts.all fun t=>P.readableRec t&&decide (t < P.types.size))=true →
  DataW.TrodAll enc P W 0 (fun _=>true) true ts vs ds ps→DataW.TrodAll enc P W' 0 (fun b=>decide (b < W.heap.size)) true ts vs ds ps
 | [],[],[],_,_,h=>h
 | [],[],_ :: _,_,_,h=>h.elim
 | [],_ :: _,_,_,_,h=>h.elim
 | _ :: _,[],_,_,_,h=>h.elim
 | _ :: _,_ :: _,[],_,_,h=>h.elim
 | t :: ts,v :: vs,d :: ds,ps,ht,h=>by
  have hlt:=h.lt
  obtain⟨p,q,h1,h2,rfl⟩:=h
  simp only [List.all_cons,Bool.and_eq_true,decide_eq_true_eq] at ht
  exact⟨p,q,Below.trod hl ht.1.1 ht.1.2 h1 hb (fun x hx=>hlt x (by simp [hx])),agc hl hb (by simpa using ht.2) h2,rfl⟩
theorem aHN{fn:Func}{s:ChangeSpec}{W W':World}{args:Array Value}{ds gs:List (DataW H)}{before:List MemPlace}{tb:TypeId}(hl:laidOutB P=true)
  (ht:(fn.params.toList.all fun t=>P.readableRec t&&decide (t < P.types.size))=true) (hr:fn.resultTypes = #[tb]) (hb:P.underlying tb=some .bool)
  (hW:DataW.Whole enc P fn.params.toList s.vars false W args.toList ds gs before) (hvars:s.vars=[]) (hfn:s.fn H (ds++gs)={ results:=[.lit (.bool true)],args:=ds })
  (hB:Below W.heap.size W W'):s.post enc P fn false true false false W args (.bool true) W':=by
 have hW':=hW
 obtain⟨p,q,h1,h2,h3,h4,h5⟩:=hW'
 have hq:q=[]∧gs=[]:=by
  rw [hvars] at h2
  cases gs with
  | nil=>exact⟨h2,rfl⟩
  | cons _ _=>exact h2.elim
 refine⟨ds,gs,before,[],p,[],hW,?_,?_,?_,?_,fun h=>by cases h⟩
 ·rw [hfn,hr]
  exact trodAll_mk1 (shut_bool hb _)
 ·rw [hfn];exact agc hl hB ht h1
 ·rw [hfn,hvars];rfl
 ·refine⟨hB.os,hB.output,fun i hi=>?_⟩
  rw [hB.block i hi]
  cases W.heap[i]? with
  | none=>rfl
  | some o=>cases o with
   | cells c t fr=>exact⟨rfl,rfl,rfl,fun _ _=>rfl⟩
   | map es clock=>exact .inr ⟨rfl,rfl⟩
   | _=>rfl
theorem aaz{k:IntKind}{n:Int}(h:(Lit.int k n).wf=true):k.has n:=by
 simpa [Lit.wf,IntKind.has] using h
theorem aHO{r:Reach}{b0:Nat}{t:TypeId}{k:IntKind}{v:Value}{d:DataW H}{ps:List MemPlace}(ht:P.underlying t=some (.int k))(hval:Value.okWide P W r b0 t v)(hd:DataW.Trod enc P W base sp held t v d ps):
  ∃ n:Int,k.has n ∧ ∀ w W ρ,Rep w W ρ (.int k n) v:=by
 obtain⟨n,rfl,_,_,h⟩:=open_int ht hval hd
 exact⟨n,aaz h,fun w W ρ=>.int k n (aaz h)⟩
theorem aHP{fuel t m e:Nat}{k:IntKind}{cs:List Value}{d:DataW H}{p:List MemPlace}(hu:P.underlying t=some (.array m e))(he:P.underlying e=some (.int k))(hc:P.cellsOf e=1)
  (h:DataW.trod enc P W base sp held fuel t cs=some (d,p)) {zs:List Int} (hd:d=.agg (zs.map fun z=>.lit (.int k z))):zs.length=m ∧ ∀ j,j < m→cs[j]?=some (.int k (zs.getD j 0))∧k.has (zs.getD j 0):=by
 obtain⟨xs,m1,rfl,hx,hlen,hn,hel⟩:=DataW.trod_array hu h
 simp only [Prod.mk.injEq] at hx
 rw [hd] at hx
 have hx1:zs.map (fun z=>(DataW.lit (.int k z):DataW H))=xs.map (·.1):=by
  have:=hx.1;injection this
 have hl:zs.length=m:=by rw [← hn];have:=congrArg List.length hx1;simpa using this
 refine⟨hl,fun j hj=>?_⟩
 have h1:=hel j hj
 rw [hc,Nat.mul_one] at h1
 have hjx:j < xs.length:=by omega
 rw [List.getElem?_eq_getElem hjx] at h1
 obtain⟨n,g1,g2,g3⟩:=DataW.trod_int he h1
 have h2:(xs.map (·.1))[j]?=some (.lit (.int k n)):=by rw [List.getElem?_map,List.getElem?_eq_getElem hjx,g2];rfl
 rw [← hx1,List.getElem?_map,List.getElem?_eq_getElem (show j < zs.length by omega)] at h2
 simp only [Option.map_some,Option.some.injEq,DataW.lit.injEq,Lit.int.injEq,true_and] at h2
 have e:zs.getD j 0=n:=by rw [List.getD_eq_getElem?_getD,List.getElem?_eq_getElem (show j < zs.length by omega)];exact h2
 rw [e]
 refine⟨?_,aaz g3⟩
 have h3:(cs.drop j)[0]?=some (.int k n):=by
  have:((cs.drop j).take 1)[0]?=some (.int k n):=by rw [g1];rfl
  simpa [List.getElem?_take] using this
 simpa using h3
theorem akm{n:String}{d:DataW Unit}{l:List (String×DataW Unit)}{ps:List MemPlace}{g t m e:Nat}{k:IntKind}(h:DataW.LaidVars P W ((n,d) :: l) ps)(hg:P.globalNamed n=some g)
  (ht:(P.globals[g]?).map (·.type)=some t) (hu:P.underlying t=some (.array m e)) (he:P.underlying e=some (.int k)) (hc:P.cellsOf e=1) {zs:List Int} (hd:d=.agg (zs.map fun z=>.lit (.int k z))) :
  (∀ j,j < zs.length→W.cell? ⟨g,j,none⟩=some (.int k (zs.getD j 0))∧k.has (zs.getD j 0)) ∧ ∃ ps',DataW.LaidVars P W l ps':=by
 obtain⟨g0,t0,cs,fuel,p,q,h1,h2,h3,h4,h5,_⟩:=h
 rw [hg] at h1;cases h1
 rw [ht] at h2;cases h2
 obtain⟨hl,hcell⟩:=aHP hu he hc h4 hd
 refine⟨fun j hj=>?_,q,h5⟩
 obtain⟨c1,c2⟩:=hcell j (by omega)
 exact⟨(World.var?_cell hg h3 j).trans (by simpa using c1),c2⟩
theorem a7a{G:Nat→Option AV}(h:∀ g r,G g=some r → ∃ k zs,r=.rI k zs∧0 < zs.length ∧ ∀ j,j < zs.length→W.cell? ⟨g,j,none⟩=some (.int k (zs.getD j 0))∧k.has (zs.getD j 0)):GOk G W W0:=by
 intro g r hg _
 obtain⟨k,zs,rfl,h0,hc⟩:=h g r hg
 refine⟨h0,block_lt_of_cell (hc 0 h0).1,fun h=>h,fun j=>.int k (zs.getD j 0),fun j hj=>⟨(hc j hj).1,fun w W ρ=>?_⟩⟩
 exact .int k _ (hc j hj).2
end Go.Am
