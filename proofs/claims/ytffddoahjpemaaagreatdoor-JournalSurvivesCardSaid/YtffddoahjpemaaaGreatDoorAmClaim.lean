/- Part of a proof. -/
import Derived.Test.YtffddoahjpemaaaGreatDoorAmOpen
import Derived.SliceStrings
set_option linter.unusedVariables false
set_option linter.unusedSimpArgs false
namespace Go.Am
open Go Go.ChangeShapes Go.WideShapes Go.RowKit
variable {P : Program} {H : Type} {enc : TypeId × Value → H} {W : World}
def AA(P:Program)(t:TypeId)(S:AV→Prop):Prop:=∀ (H:Type) (enc:TypeId×Value→H) (W:World) (b0:Nat) (v:Value) (d:DataW H) (ps:List MemPlace),
 Value.okWide P W .any b0 t v→DataW.Trod enc P W 0 (fun _=>true) true t v d ps→(∀ n∈d.weights P t,n≤reachBytes) → ∃ X,S X∧Rep W W0 ρ0 X v
def Lv(k:IntKind)(X:AV):Prop:=∃ n,X=.int k n
def isStr(X:AV):Prop:=∃ s,X=.str s
def aZ0(k:IntKind)(X:AV):Prop:=∃ zs,X=.vs (.rI k zs) 0 1
theorem zg{t:TypeId}{k:IntKind}(ht:P.underlying t=some (.int k)):AA P t (Lv k):=fun H enc W b0 v d ps hv hd _=>by
 obtain⟨n,_,h⟩:=Rc ht hv hd
 exact⟨_,⟨n,rfl⟩,h _ _ _⟩
theorem dZ{a:Addr}{v:Value}(h:W.cell? a=some v)(i:Nat):a=⟨a.block,a.off,none⟩∧a.add i=⟨a.block,a.off+i,none⟩:=by
 have hs:a.spot=none:=by
  unfold World.cell? at h
  split at h
  ·cases hsp:a.spot with
   | none=>rfl
   | some x=>rw [hsp] at h;simp at h
  ·contradiction
 obtain⟨b,o,s⟩:=a
 simp only at hs;subst hs
 refine⟨rfl,?_⟩
 unfold Addr.add;split
 ·rename_i h0;rw [h0];rfl
 ·rfl
theorem zh{α:Type}(l:List α)(n j:Nat)(z:α)(h:j < n):(l.take n).getD j z=l.getD j z:=by
 simp [List.getD_eq_getElem?_getD,List.getElem?_take,h]
theorem Lx{t e:TypeId}{k:IntKind}(ht:P.underlying t=some (.slice e))(he:P.underlying e=some (.int k))(hc:P.cellsOf e=1)(hb0:Nat.blt 0 (P.bytesOf e)=true):AA P t (aZ0 k):=fun H enc W b0 v d ps hv hd hw=>by
 have hb:0 < P.bytesOf e:=by rw [Nat.blt_eq] at hb0;exact hb0
 obtain⟨a0,len0,cap0,rfl⟩:=okWide_slice ht hv
 obtain⟨fuel,hf⟩:=hd
 rcases open_ints ht he hc hf with ⟨h1,_⟩ | ⟨a,len,cap,zs,h1,_,hl,_,hz,hx,hcell,hwf⟩
 ·have h2:(Value.slice a0 len0 cap0)=.slice none 0 0:=by simpa [Value.cells] using h1
  rw [h2]
  exact⟨.vs (.rI k []) 0 1,⟨[],rfl⟩,.vs0 _ 1 0 none rfl rfl⟩
 ·have h2:(Value.slice a0 len0 cap0)=.slice (some a) len cap:=by simpa [Value.cells] using h1
  rw [h2]
  simp only [if_true] at hz
  simp only [Prod.mk.injEq] at hx
  by_cases h0:len=0
  ·subst h0
   exact⟨.vs (.rI k []) 0 1,⟨[],rfl⟩,.vs0 _ 1 cap _ rfl rfl⟩
  ·refine⟨.vs (.rI k (zs.take len)) 0 1,⟨_,rfl⟩,?_⟩
   have hlt:len≤reachBytes:=by
    have:=hw (((lits (H:=H) k (zs.take len)).length+(lits (H:=H) k (zs.drop len)).length)*P.bytesOf e) (by rw [hx.1];simp [DataW.weights,ht])
    simp only [lits,List.length_map,List.length_take,List.length_drop] at this
    have h3:=Nat.le_mul_of_pos_right (min len zs.length+(zs.length-len)) hb
    omega
   have hr:reachBytes < 4611686018427387904:=by decide
   have ha:=hcell 0 (by omega)
   rw [show a.add 0=a by simp [Addr.add]] at ha
   rw [(dZ ha 0).1]
   refine .vs _ 0 1 len cap a.block a.off (fun i=>.int k (zs.getD i 0)) rfl (by omega) (by simp [AV.size];omega) (by omega) (.inl rfl) hl (by omega) (fun h=>h) (fun j hj=>?_) (fun j hj=>?_)
   ·rw [← (dZ ha j).2];exact hcell j (by omega)
   ·simp only [AV.cell]
    rw [zh _ _ _ _ (by omega)]
    refine .int k _ (jH (hwf _ ?_))
    rw [List.getD_eq_getElem?_getD,List.getElem?_eq_getElem (by omega)]
    exact List.getElem_mem _
theorem lK{e:TypeId}:∀ {l:List (DataW H)} {d:DataW H} {n:Nat},d∈l→n∈d.weights P e→n∈DataW.weightsAll P e l
 | x :: l,d,n,hd,hn=>by
  simp only [DataW.weightsAll,List.mem_append]
  rcases List.mem_cons.mp hd with rfl | h
  ·exact .inl hn
  ·exact .inr (lK h hn)
end Go.Am
