/- Part of a proof. -/
import Derived.Test.YtgdibbphgdkllaaAmWf
import Derived.ProofKit
import Derived.Handed
import Derived.SizedLaws
import Derived.Carry
import Derived.OpenShut
set_option linter.unusedVariables false
set_option linter.unusedSimpArgs false
namespace Go.Am
open Go Go.ChangeShapes Go.WideShapes Go.RowKit
variable {P : Program} {V : Env} {H : Type} {enc : TypeId × Value → H} {W : World} {base : Nat} {sp : Nat → Bool} {held : Bool}
def W0:Nat→Prop:=fun _=>False
def ρ0:Rho:=⟨fun _=>none,fun _=>none⟩
def U0:Oth:={ v:=fun _=>False,n:=fun _=>False,sub:=fun _ h=>h,ini:=ρ0 }
theorem Sim.start{G:Nat→Option AV}(hG:GOk G W (WrO ρ0 (tagH 0 []))):Sim U0 G W (WrO ρ0 (tagH 0 [])) ρ0 (hst []) emptyAct W where
 tm:=fun t=>.undef _
 nt:=rfl
 df:=rfl
 bl:=fun id n r b h=>by simp [hst,tagH,lkH] at h
 sep:=fun id id' n r n' r' b' L L' h=>by simp [hst,tagH,lkH] at h
 dom:=fun id h=>absurd rfl h
 fr:=fun b _ _=>rfl
 wo:=fun b h=>.inl h
 sz:=Nat.le_refl _
 gl:=hG
 uo:=fun b h=>h.elim
 ug:=fun g r _ _ h=>h.elim
 su:=fun id n r b L h=>by simp [hst,tagH,lkH] at h
 ini:=fun id x h=>h
 im:=fun id h=>absurd rfl h
 sm:=WSame.refl _
 xk:=⟨(fun _ _ h=>by cases h),(fun _ _ _ _ _ _ _ h=>by cases h),(fun _ _ h=>by cases h)⟩
theorem wr0:Wr U0 ρ0 (tagH 0 [])=W0:=by
 funext b;apply propext
 constructor
 ·rintro(h | ⟨M,h⟩ | ⟨id,n,r,L,h,_⟩)
  ·exact h
  ·cases h
  ·simp [tagH,lkH] at h
 ·exact fun h=>h.elim
theorem enter{G:Nat→Option AV}{f:Nat}{run:List AV→List Blk→Option (Bool×AV×List Blk)}(hc:CallOk P G f run){X:List AV}{args:Array Value}(hr:run X []=some (true,.bool true,[]))
  (hG:GOk G W W0) (hX:Reps W W0 ρ0 X args.toList) :
  Calls P f args W fun e W'=>e=.returned (.bool true)∧Below W.heap.size W W':=by
 have hw:WrO ρ0 (tagH 0 [])=W0:=by
  funext b;apply propext
  refine⟨?_,fun h=>h.elim⟩
  rintro(⟨M,h⟩ | ⟨id,n,r,L,h,_⟩)
  ·cases h
  ·simp [tagH,lkH] at h
 refine(hc.does X [] _ _ hr U0 W ρ0 args rfl (Sim.start (by rw [hw];exact hG)) (by rw [wr0];exact hX)).mono ?_
 rintro e W' ⟨v,ρ',rfl,hs,hv⟩
 cases hv
 refine⟨rfl,⟨hs.sm.1,hs.sm.2.2,hs.sm.2.1,hs.sz,fun k hk=>?_⟩⟩
 exact hs.fr k hk (by rw [hw];exact fun h=>h)
theorem trodAll_below(hl:laidOutB P=true){W W':World}(hb:Below W.heap.size W W'):∀ {ts:List TypeId} {vs:List Value} {ds:List (DataW H)} {ps:List MemPlace},(ts.all fun t=>P.readableRec t&&decide (t < P.types.size))=true →
  DataW.TrodAll enc P W 0 (fun _=>true) true ts vs ds ps→DataW.TrodAll enc P W' 0 (fun b=>decide (b < W.heap.size)) true ts vs ds ps
 | [],[],[],_,_,h=>h
 | [],[],_ :: _,_,_,h=>h.elim
 | [],_ :: _,_,_,_,h=>h.elim
 | _ :: _,[],_,_,_,h=>h.elim
 | _ :: _,_ :: _,[],_,_,h=>h.elim
 | t :: ts,v :: vs,d :: ds,ps,ht,h=>by
  have hlt:=h.lt
  obtain⟨p,q,h1,h2,rfl⟩:=h
  simp only [List.all_cons,Bool.and_eq_true,decide_eq_true_eq] at ht
  exact⟨p,q,Below.trod hl ht.1.1 ht.1.2 h1 hb (fun x hx=>hlt x (by simp [hx])),trodAll_below hl hb (by simpa using ht.2) h2,rfl⟩
theorem post_true{fn:Func}{s:ChangeSpec}{W W':World}{args:Array Value}{ds gs:List (DataW H)}{before:List MemPlace}{tb:TypeId}(hl:laidOutB P=true)
  (ht:(fn.params.toList.all fun t=>P.readableRec t&&decide (t < P.types.size))=true) (hr:fn.resultTypes = #[tb]) (hb:P.underlying tb=some .bool)
  (hW:DataW.Whole enc P fn.params.toList s.vars false W args.toList ds gs before) (hvars:s.vars=[]) (hfn:s.fn H (ds++gs)={ results:=[.lit (.bool true)],args:=ds })
  (hB:Below W.heap.size W W'):s.post enc P fn false true false false W args (.bool true) W':=by
 have hW':=hW
 obtain⟨p,q,h1,h2,h3,h4,h5⟩:=hW'
 have hq:q=[]∧gs=[]:=by
  rw [hvars] at h2
  cases gs with
  | nil=>exact⟨h2,rfl⟩
  | cons _ _=>exact h2.elim
 refine⟨ds,gs,before,[],p,[],hW,?_,?_,?_,?_,fun h=>by cases h⟩
 ·rw [hfn,hr]
  exact trodAll_mk1 (shut_bool hb _)
 ·rw [hfn];exact trodAll_below hl hB ht h1
 ·rw [hfn,hvars];rfl
 ·refine⟨hB.os,hB.output,fun i hi=>?_⟩
  rw [hB.block i hi]
  cases W.heap[i]? with
  | none=>rfl
  | some o=>cases o with
   | cells c t fr=>exact⟨rfl,rfl,rfl,fun _ _=>rfl⟩
   | map es clock=>exact .inr ⟨rfl,rfl⟩
   | _=>rfl
theorem lit_has{k:IntKind}{n:Int}(h:(Lit.int k n).wf=true):k.has n:=by
 simpa [Lit.wf,IntKind.has] using h
theorem open_int'{r:Reach}{b0:Nat}{t:TypeId}{k:IntKind}{v:Value}{d:DataW H}{ps:List MemPlace}(ht:P.underlying t=some (.int k))(hval:Value.okWide P W r b0 t v)(hd:DataW.Trod enc P W base sp held t v d ps):
  ∃ n:Int,k.has n ∧ ∀ w W ρ,Rep w W ρ (.int k n) v:=by
 obtain⟨n,rfl,_,_,h⟩:=open_int ht hval hd
 exact⟨n,lit_has h,fun w W ρ=>.int k n (lit_has h)⟩
end Go.Am
