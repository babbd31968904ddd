/- Part of a proof. -/
import Derived.Test.YtffddoahjpemaaaGreatDoorAmOpen
import Derived.SliceStrings
set_option linter.unusedVariables false
set_option linter.unusedSimpArgs false
namespace Go.Am
open Go Go.ChangeShapes Go.WideShapes Go.RowKit
variable {P : Program} {H : Type} {enc : TypeId × Value → H} {W : World}
def aYn(P:Program)(t:TypeId)(S:AV→Prop):Prop:=∀ (H:Type) (enc:TypeId×Value→H) (W:World) (b0:Nat) (v:Value) (d:DataW H) (ps:List MemPlace),
 Value.okWide P W .any b0 t v→DataW.Trod enc P W 0 (fun _=>true) true t v d ps→(∀ n∈d.weights P t,n≤reachBytes) → ∃ X,S X∧Rep W W0 ρ0 X v
def aYo(k:IntKind)(X:AV):Prop:=∃ n,X=.int k n
def isStr(X:AV):Prop:=∃ s,X=.str s
theorem aH4{t:TypeId}{k:IntKind}(ht:P.underlying t=some (.int k)):aYn P t (aYo k):=fun H enc W b0 v d ps hv hd _=>by
 obtain⟨n,_,h⟩:=aHO ht hv hd
 exact⟨_,⟨n,rfl⟩,h _ _ _⟩
theorem Qz{a:Addr}{v:Value}(h:W.cell? a=some v)(i:Nat):a=⟨a.block,a.off,none⟩∧a.add i=⟨a.block,a.off+i,none⟩:=by
 have hs:a.spot=none:=by
  unfold World.cell? at h
  split at h
  ·cases hsp:a.spot with
   | none=>rfl
   | some x=>rw [hsp] at h;simp at h
  ·contradiction
 obtain⟨b,o,s⟩:=a
 simp only at hs;subst hs
 refine⟨rfl,?_⟩
 unfold Addr.add;split
 ·rename_i h0;rw [h0];rfl
 ·rfl
theorem aH5{α:Type}(l:List α)(n j:Nat)(z:α)(h:j < n):(l.take n).getD j z=l.getD j z:=by
 simp [List.getD_eq_getElem?_getD,List.getElem?_take,h]
theorem aaE{e:TypeId}:∀ {l:List (DataW H)} {d:DataW H} {n:Nat},d∈l→n∈d.weights P e→n∈DataW.weightsAll P e l
 | x :: l,d,n,hd,hn=>by
  simp only [DataW.weightsAll,List.mem_append]
  rcases List.mem_cons.mp hd with rfl | h
  ·exact .inl hn
  ·exact .inr (aaE h hn)
end Go.Am
