/- Part of a proof. -/
import Derived.Test.YtffddoahjpemaaaGreatDoorAm36ZA
import Derived.Test.YtffddoahjpemaaaGreatDoorAmClaim
import Derived.Test.YtffddoahjpemaaaGreatDoorTie
import Derived.Test.YtffddoahjpemaaaGreatDoorCards
import Derived.LaidMore
import Derived.OpenShut
import Derived.Stop.Joined
import Derived.SevenTiedAt
import Derived.ProofKit
set_option linter.unusedSimpArgs false
set_option linter.unusedVariables false
section
/- What the claims of this seat share: the variables that a row lists. -/
namespace Go.Proofs.YtffddoahjpemaaaGreatDoor
open Go Go.Am Go.ChangeShapes Go.WideShapes Go.ChangeAt Go.WideMaps Go.WideElems Go.RowKit
theorem own:ownKnob Tryz.prog.godebug=none:=by kernel_rfl
theorem a7j:laidOutB Tryz.prog=true:=by kernel_rfl
abbrev lBoth : List (String × DataW Unit) := [("gantry/gantryref02.constants", Rows.laid_gantry_gantryref02_constants), ("gantry/hash.constants", Rows.laid_gantry_hash_constants)]
theorem aH6(os:Os)(args:Array Value):laidMetH Tryz.prog lBoth ((World.doorLaid Tryz.prog 400 os).forCall (fun _ _=>0) ⟨#[],args,[]⟩).memory:=
 laidMetH_of_parts3 (fuel:=8) (laidMet_of_run' 8 (by kernel_rfl) (by kernel_rfl)) (by kernel_rfl) (by kernel_rfl)
theorem baI{W:World}(h:laidMetH Tryz.prog lBoth W):GOk DW W W0:=by
 rw [MakeChecks.laidMetH_plain _ _ _ (by kernel_rfl)] at h
 obtain⟨ps,h,_⟩:=h
 obtain⟨hc0,ps',h'⟩:=akm (g:=0) (t:=164) (m:=64) (e:=137) (k:=.u32) (zs:=Sha.K) h (by kernel_rfl) (by kernel_rfl) (by kernel_rfl) (by kernel_rfl) (by kernel_rfl) rfl
 obtain⟨hc1,_⟩:=akm (g:=2) (t:=164) (m:=64) (e:=137) (k:=.u32) (zs:=Sha.K) h' (by kernel_rfl) (by kernel_rfl) (by kernel_rfl) (by kernel_rfl) (by kernel_rfl) rfl
 refine a7a fun g r hg=>?_
 unfold DW at hg
 split at hg
 ·injection hg with hg
  exact⟨.u32,Sha.K,hg.symm,by decide,hc0⟩
 ·injection hg with hg
  exact⟨.u32,Sha.K,hg.symm,by decide,hc1⟩
 ·contradiction
end Go.Proofs.YtffddoahjpemaaaGreatDoor
end
section
/- The same where a row bears a condition on the sizes of what it reads. -/
namespace Go.Am
open Go Go.ChangeShapes Go.WideShapes Go.RowKit
variable {P : Program} {H : Type} {enc : TypeId × Value → H} {W : World}
abbrev PX:=(H:Type)→DataW H→AV→Prop
def aum(P:Program)(t:TypeId)(S:PX):Prop:=∀ (H:Type) (enc:TypeId×Value→H) (W:World) (b0:Nat) (v:Value) (d:DataW H) (ps:List MemPlace),
 Value.okWide P W .any b0 t v→DataW.Trod enc P W 0 (fun _=>true) true t v d ps→(∀ n∈d.weights P t,n≤reachBytes) → ∃ X,S H d X∧Rep W W0 ρ0 X v
def a8b(S:AV→Prop):PX:=fun _ _ X=>S X
theorem aCn{t:TypeId}{S:AV→Prop}(h:aYn P t S):aum P t (a8b S):=h
def ahU:List PX→List (DataW H)→List AV→Prop
 | [],[],[]=>True
 | S :: l,d :: ds,X :: Xs=>S H d X∧ahU l ds Xs
 | _,_,_=>False
theorem ahU.inv{S:PX}{l:List PX}:∀ {ds:List (DataW H)} {X:List AV},ahU (S :: l) ds X → ∃ d ds' x X',ds=d :: ds'∧X=x :: X'∧S H d x∧ahU l ds' X'
 | [],_,h=>h.elim
 | _ :: _,[],h=>h.elim
 | d :: ds,x :: X,h=>⟨d,ds,x,X,rfl,rfl,h.1,h.2⟩
theorem ahU.inv0:∀ {ds:List (DataW H)} {X:List AV},ahU [] ds X→ds=[]∧X=[]
 | [],[],_=>⟨rfl,rfl⟩
 | [],_ :: _,h=>h.elim
 | _ :: _,_,h=>h.elim
def agI(P:Program):List TypeId→List PX→Prop
 | [],[]=>True
 | t :: ts,S :: l=>aum P t S∧agI P ts l
 | _,_=>False
theorem apF:∀ {ts:List TypeId} {l:List PX} {vs:List Value} {ds:List (DataW H)} {ps:List MemPlace} {b0:Nat},agI P ts l→DataW.TrodAll enc P W 0 (fun _=>true) true ts vs ds ps →
  (∀ (j:Nat) t v,ts[j]?=some t→vs[j]?=some v→Value.okWide P W .any b0 t v)→(∀ n∈DataW.weightsEach P ts ds,n≤reachBytes) → ∃ X,ahU l ds X∧Reps W W0 ρ0 X vs
 | [],[],[],[],_,_,_,h,_,_=>⟨[],trivial,trivial⟩
 | [],[],[],_ :: _,_,_,_,h,_,_=>h.elim
 | [],[],_ :: _,[],_,_,_,h,_,_=>h.elim
 | [],[],_ :: _,_ :: _,_,_,_,h,_,_=>h.elim
 | [],_ :: _,_,_,_,_,ho,_,_,_=>ho.elim
 | _ :: _,[],_,_,_,_,ho,_,_,_=>ho.elim
 | _ :: _,_ :: _,[],_,_,_,_,h,_,_=>h.elim
 | _ :: _,_ :: _,_ :: _,[],_,_,_,h,_,_=>h.elim
 | t :: ts,S :: l,v :: vs,d :: ds,ps,b0,ho,h,hv,hw=>by
  obtain⟨p,q,h1,h2,_⟩:=h
  simp only [DataW.weightsEach,List.mem_append] at hw
  obtain⟨X,hX,hR⟩:=ho.1 H enc W b0 v d p (hv 0 t v rfl rfl) h1 (fun n hn=>hw n (.inl hn))
  obtain⟨Xs,hXs,hRs⟩:=apF ho.2 h2 (fun j t v g1 g2=>hv (j+1) t v (by simpa using g1) (by simpa using g2)) (fun n hn=>hw n (.inr hn))
  exact⟨X :: Xs,⟨hX,hXs⟩,hR,hRs⟩
theorem aCo{G:Nat→Option AV}{f:Nat}{fn:Func}{s:ChangeSpec}{run:List AV→List Blk→Option (Bool×AV×List Blk)}{base:Nat}{args:Array Value}{ds gs:List (DataW H)}{before:List MemPlace}{tb:TypeId}{l:List PX}{C:List (DataW H)→Prop}
  (hc:CallOk P G f run) (hG:GOk G W W0) (ho:agI P fn.params.toList l) (hrun:∀ X ds,ahU (H:=H) l ds X→C ds→run X []=some (true,.bool true,[]))
  (hl:laidOutB P=true) (ht:(fn.params.toList.all fun t=>P.readableRec t&&decide (t < P.types.size))=true) (hr:fn.resultTypes = #[tb]) (hb:P.underlying tb=some .bool) (hvars:s.vars=[])
  (hfn:∀ ds:List (DataW H),ds.length=fn.params.size→s.fn H ds={ results:=[.lit (.bool true)],args:=ds })
  (hval:∀ (j:Nat) t v,fn.params[j]?=some t→args[j]?=some v→Value.okWide P W .any base t v) (hW:DataW.Whole enc P fn.params.toList s.vars false W args.toList ds gs before)
  (hsz:(DataW.weightsEach P (fn.params.toList++s.plain.varTypes P) (ds++gs)).all (· ≤ reachBytes)=true) (hC:C (ds++gs)) :
  Calls P f args W fun e W'=>∃ v,e=.returned v∧s.post enc P fn false true false false W args v W':=by
 have hW':=hW
 obtain⟨p,q,hA,hV,rfl,hfz,hnd⟩:=hW'
 have hg:gs=[]:=by
  rw [hvars] at hV
  cases gs with
  | nil=>rfl
  | cons _ _=>exact hV.elim
 subst hg
 rw [List.append_nil] at hC
 have hlen:ds.length=fn.params.size:=by
  have:∀ {ts:List TypeId} {vs:List Value} {ds:List (DataW H)} {ps:List MemPlace},DataW.TrodAll enc P W 0 (fun _=>true) true ts vs ds ps→ds.length=ts.length:=by
   intro ts
   induction ts with
   | nil=>intro vs ds ps h;cases vs <;> cases ds <;> first | rfl | exact h.elim
   | cons t ts ih=>
    intro vs ds ps h
    cases vs with
    | nil=>exact h.elim
    | cons v vs=>cases ds with
     | nil=>exact h.elim
     | cons d ds=>obtain⟨_,_,_,h2,_⟩:=h;simp [ih h2]
  rw [this hA];simp
 obtain⟨X,hX,hR⟩:=apF (b0:=base) ho hA (fun j t v g1 g2=>hval j t v (by rw [← Array.getElem?_toList];exact g1) (by rw [← Array.getElem?_toList];exact g2)) (fun n hn=>by
  have:=List.all_eq_true.1 hsz n (by
   rw [List.append_nil]
   have key:∀ (ts us:List TypeId) (ds:List (DataW H)),n∈DataW.weightsEach P ts ds→n∈DataW.weightsEach P (ts++us) ds:=by
    intro ts
    induction ts with
    | nil=>intro us ds h;cases ds <;> simp [DataW.weightsEach] at h
    | cons t ts ih=>
     intro us ds h
     cases ds with
     | nil=>simp [DataW.weightsEach] at h
     | cons d ds=>
      simp only [DataW.weightsEach,List.cons_append,List.mem_append] at h ⊢
      exact h.imp id (ih us ds)
   exact key _ _ _ hn)
  simpa using this)
 refine(enter hc (hrun X ds hX hC) hG hR).mono ?_
 rintro e W' ⟨rfl,hB⟩
 exact⟨_,rfl,aHN hl ht hr hb hW hvars (by rw [List.append_nil];exact hfn ds hlen) hB⟩
end Go.Am
end
section
/- Slices of structs whose fields are integers, bools, strings and slices of integers, as arguments. -/
namespace Go.Am
open Go Go.ChangeShapes Go.WideShapes Go.RowKit
variable {P : Program} {H : Type} {enc : TypeId × Value → H} {W : World}
def aky(P:Program)(t:TypeId)(k:CK):Prop:=∀ (H:Type) (enc:TypeId×Value→H) (W:World) (n:Nat) (cs:List Value) (x:DataW H×List MemPlace),
 DataW.trod enc P W 0 (fun _=>true) true n t cs=some x→(∀ m∈x.1.weights P t,m≤reachBytes) → ∃ c f,cs=[c]∧Rep W W0 ρ0 (Ev k f) c∧f.length≤reachBytes+1
theorem PY{t:TypeId}{k:IntKind}(ht:P.underlying t=some (.int k)):aky P t (.int k):=fun H enc W n cs x h _=>by
 obtain⟨z,h1,_,h3⟩:=DataW.trod_int ht h
 exact⟨_,[z],h1,.int k z (aaz h3),by simp⟩
theorem aH7{t e:TypeId}{k:IntKind}(ht:P.underlying t=some (.slice e))(he:P.underlying e=some (.int k))(hc:P.cellsOf e=1)(hb0:Nat.blt 0 (P.bytesOf e)=true):aky P t (.sl k):=fun H enc W n cs x h hw=>by
 have hb:0 < P.bytesOf e:=by rw [Nat.blt_eq] at hb0;exact hb0
 rcases open_ints ht he hc h with ⟨h1,_⟩ | ⟨a,len,cap,zs,h1,_,hl,_,hz,hx,hcell,hwf⟩
 ·exact⟨_,[],h1,.vs0 _ 1 0 none rfl rfl,by simp⟩
 ·simp only [if_true] at hz
  by_cases h0:len=0
  ·subst h0
   exact⟨_,[],h1,.vs0 _ 1 cap _ rfl rfl,by simp⟩
  ·have hlt:len≤reachBytes:=by
    have:=hw (((lits (H:=H) k (zs.take len)).length+(lits (H:=H) k (zs.drop len)).length)*P.bytesOf e) (by rw [hx];simp [DataW.weights,ht])
    simp only [lits,List.length_map,List.length_take,List.length_drop] at this
    have h3:=Nat.le_mul_of_pos_right (min len zs.length+(zs.length-len)) hb
    omega
   refine⟨_,zs.take len,h1,?_,by rw [List.length_take];omega⟩
   have hr:reachBytes < 4611686018427387904:=by decide
   have ha:=hcell 0 (by omega)
   rw [show a.add 0=a by simp [Addr.add]] at ha
   rw [(Qz ha 0).1]
   refine .vs _ 0 1 len cap a.block a.off (fun i=>.int k (zs.getD i 0)) rfl (by omega) (by simp [AV.size];omega) (by omega) (.inl rfl) hl (by omega) (fun h=>h) (fun j hj=>?_) (fun j hj=>?_)
   ·rw [← (Qz ha j).2];exact hcell j (by omega)
   ·simp only [AV.cell]
    rw [aH5 _ _ _ _ (by omega)]
    refine .int k _ (aaz (hwf _ ?_))
    rw [List.getD_eq_getElem?_getD,List.getElem?_eq_getElem (by omega)]
    exact List.getElem_mem _
def aCp(P:Program):List Field→List CK→Nat→Prop
 | [],[],_=>True
 | f :: fs,k :: ks,c=>f.offset=c∧P.cellsOf f.type=1∧aky P f.type k∧aCp P fs ks (c+1)
 | _,_,_=>False
theorem aCp.len:∀ {fs:List Field} {ks:List CK} {c:Nat},aCp P fs ks c→fs.length=ks.length
 | [],[],_,_=>rfl
 | [],_ :: _,_,h=>h.elim
 | _ :: _,[],_,h=>h.elim
 | _ :: fs,_ :: ks,c,h=>by simp [aCp.len h.2.2.2]
theorem aCp.at:∀ {fs:List Field} {ks:List CK} {c:Nat},aCp P fs ks c → ∀ j,j < ks.length → ∃ f,fs[j]?=some f∧f.offset=c+j∧P.cellsOf f.type=1∧aky P f.type (ks.getD j .bool)
 | [],[],_,_,j,hj=>by simp at hj
 | [],_ :: _,_,h,_,_=>h.elim
 | _ :: _,[],_,h,_,_=>h.elim
 | f :: fs,k :: ks,c,h,0,_=>⟨f,rfl,h.1,h.2.1,h.2.2.1⟩
 | f :: fs,k :: ks,c,h,j+1,hj=>by
  obtain⟨g,h1,h2,h3,h4⟩:=aCp.at h.2.2.2 j (by simpa using hj)
  exact⟨g,by simpa using h1,by omega,h3,by simpa using h4⟩
theorem WY:∀ {ts:List TypeId} {ds:List (DataW H)} {j:Nat} {t:TypeId} {d:DataW H} {n:Nat},ts[j]?=some t→ds[j]?=some d→n∈d.weights P t→n∈DataW.weightsEach P ts ds
 | [],_,_,_,_,_,h,_,_=>by simp at h
 | _ :: _,[],_,_,_,_,_,h,_=>by simp at h
 | t :: ts,d :: ds,0,_,_,n,h1,h2,h3=>by
  simp only [List.getElem?_cons_zero,Option.some.injEq] at h1 h2
  subst h1;subst h2
  simp only [DataW.weightsEach,List.mem_append];exact .inl h3
 | t :: ts,d :: ds,j+1,_,_,n,h1,h2,h3=>by
  simp only [DataW.weightsEach,List.mem_append]
  exact .inr (WY (by simpa using h1) (by simpa using h2) h3)
def aYp(ks:List CK):PX:=fun _ _ X=>∃ (xs:List (List (List Int))) (m:Nat),X=.vs (.rT ks xs) m ks.length∧m≤reachBytes∧xs.length=m ∧ ∀ x∈xs,x.length=ks.length ∧ ∀ f∈x,f.length≤reachBytes+1
theorem azu{t e:TypeId}{fs:Array Field}{ks:List CK}(ht:P.underlying t=some (.slice e))(he:P.underlying e=some (.struct fs))(hf:aCp P fs.toList ks 0)(hn:P.cellsOf e=ks.length)(h1n:Nat.blt 1 ks.length=true)
  (hb0:Nat.blt 0 (P.bytesOf e)=true):aum P t (aYp ks):=fun H enc W b0 v d ps hv hd hw=>by
 have hb:0 < P.bytesOf e:=by rw [Nat.blt_eq] at hb0;exact hb0
 rw [Nat.blt_eq] at h1n
 have hk1:klen=klen:=rfl
 obtain⟨a0,len0,cap0,rfl⟩:=okWide_slice ht hv
 obtain⟨fuel,hf'⟩:=hd
 have hkl:∀ l,klen l ks.length=l:=fun l=>by
  unfold klen;split
  ·omega
  ·rfl
 rcases DataW.trod_slice ht hf' with ⟨h1,_⟩ | ⟨a,len,cap,elems,rest,m,_,h1,hx,_,hl,_,hlen,hel,_,_⟩
 ·have h2:(Value.slice a0 len0 cap0)=.slice none 0 0:=by simpa [Value.cells] using h1
  rw [h2]
  exact⟨.vs (.rT ks []) 0 ks.length,⟨[],0,rfl,Nat.zero_le _,rfl,fun x hx=>by simp at hx⟩,.vs0 _ _ 0 none rfl (by simp [AV.size])⟩
 ·have h2:(Value.slice a0 len0 cap0)=.slice (some a) len cap:=by simpa [Value.cells] using h1
  rw [h2]
  simp only [Prod.mk.injEq] at hx
  by_cases h0:len=0
  ·subst h0
   exact⟨.vs (.rT ks []) 0 ks.length,⟨[],0,rfl,Nat.zero_le _,rfl,fun x hx=>by simp at hx⟩,.vs0 _ _ cap _ rfl (by simp [AV.size])⟩
  ·have hlt:len≤reachBytes:=by
    have:=hw (((elems.map (·.1)).length+(rest.map (·.1)).length)*P.bytesOf e) (by rw [hx.1];simp [DataW.weights,ht])
    simp only [List.length_map] at this
    have h3:=Nat.le_mul_of_pos_right (elems.length+rest.length) hb
    omega
   have hr:reachBytes < 4611686018427387904:=by decide
   have each:∀ i j,i < len→j < ks.length → ∃ c f,W.cell? ((a.add (i*ks.length)).add j)=some c∧Rep W W0 ρ0 (Ev (ks.getD j .bool) f) c∧f.length≤reachBytes+1:=fun i j hi hj=>by
    have h3:=hel i hi
    rw [hn,List.getElem?_eq_getElem (show i < elems.length by omega)] at h3
    cases hcs:W.cells? 0 (a.add (i*ks.length)) ks.length with
    | none=>rw [hcs] at h3;cases h3
    | some cs=>
     rw [hcs] at h3
     obtain⟨_,_,g3⟩:=World.cells?_some hcs
     have h3':DataW.trod enc P W 0 (fun _=>true) true m e cs=some elems[i]:=h3
     obtain⟨xs,m1,_,gx,_,gn,gel⟩:=DataW.trod_struct he h3'
     obtain⟨f,q1,q2,q3,q4⟩:=hf.at j hj
     have q1':fs[j]?=some f:=by rw [← Array.getElem?_toList];exact q1
     have hjx:j < xs.length:=by
      rw [gn];have:=hf.len;rw [← Array.length_toList];omega
     have h4:=gel j f q1'
     rw [q2,q3,Nat.zero_add,List.getElem?_eq_getElem hjx] at h4
     obtain⟨c,z,r1,r2,r3⟩:=q4 H enc W m1 _ _ h4 (fun n hn'=>by
      refine hw n ?_
      rw [hx.1]
      simp only [DataW.weights,ht,List.mem_cons,List.mem_append]
      refine .inr (.inl (aaE (d:=elems[i].1) (List.mem_map.mpr ⟨_,List.getElem_mem _,rfl⟩) ?_))
      rw [gx]
      simp only [DataW.weights,he]
      exact WY (j:=j) (t:=f.type) (d:=xs[j].1) (by rw [List.getElem?_map,q1];rfl) (by rw [List.getElem?_map,List.getElem?_eq_getElem hjx];rfl) hn')
     refine⟨c,z,?_,r2,r3⟩
     rw [g3 j hj]
     have:((cs.drop j).take 1)[0]?=some c:=by rw [r1];rfl
     simpa [List.getElem?_take] using this
   have ha:∃ z,W.cell? a=some z:=by
    obtain⟨c,f,q,_⟩:=each 0 0 (by omega) (by omega)
    rw [Nat.zero_mul,show(a.add 0).add 0=a by simp [Addr.add]] at q
    exact⟨c,q⟩
   obtain⟨z0,ha⟩:=ha
   have ea:=(Qz ha 0).1
   have eaddr:∀ i j,(a.add (i*ks.length)).add j=⟨a.block,a.off+(i*ks.length+j),none⟩:=fun i j=>by
    rw [(Qz ha (i*ks.length)).2]
    unfold Addr.add;split
    ·rename_i h0';rw [h0',Nat.add_zero]
    ·show(⟨a.block,a.off+i*ks.length+j,none⟩:Addr)=_
     rw [Nat.add_assoc]
   have pick:∀ i j,∃ f:List Int,(i < len→j < ks.length → ∃ c,W.cell? ⟨a.block,a.off+(i*ks.length+j),none⟩=some c∧Rep W W0 ρ0 (Ev (ks.getD j .bool) f) c)∧f.length≤reachBytes+1:=fun i j=>by
    by_cases hi:i < len
    ·by_cases hj:j < ks.length
     ·obtain⟨c,f,q1,q2,q3⟩:=each i j hi hj
      rw [eaddr] at q1
      exact⟨f,fun _ _=>⟨c,q1,q2⟩,q3⟩
     ·exact⟨[],fun _ h=>absurd h hj,by simp⟩
    ·exact⟨[],fun h=>absurd h hi,by simp⟩
   let F:Nat→Nat→List Int:=fun i j=>Classical.choose (pick i j)
   have hF:∀ i j,i < len→j < ks.length → ∃ c,W.cell? ⟨a.block,a.off+(i*ks.length+j),none⟩=some c∧Rep W W0 ρ0 (Ev (ks.getD j .bool) (F i j)) c:=fun i j=>(Classical.choose_spec (pick i j)).1
   have hF2:∀ i j,(F i j).length≤reachBytes+1:=fun i j=>(Classical.choose_spec (pick i j)).2
   refine⟨.vs (.rT ks ((List.range len).map fun i=>(List.range ks.length).map fun j=>F i j)) len ks.length,⟨_,len,rfl,hlt,by simp,fun x hx=>?_⟩,?_⟩
   ·simp only [List.mem_map,List.mem_range] at hx
    obtain⟨i,_,rfl⟩:=hx
    refine⟨by simp,fun f hf=>?_⟩
    simp only [List.mem_map,List.mem_range] at hf
    obtain⟨j,_,rfl⟩:=hf
    exact hF2 i j
   ·rw [ea]
    have hpos:0 < ks.length:=by omega
    refine .vs _ len ks.length len cap a.block a.off (fun j=>(W.cell? ⟨a.block,a.off+j,none⟩).getD Go.undef) rfl hpos (by simp [AV.size]) (by omega) (.inl (hkl len).symm) hl (by omega) (fun h=>h) (fun j hj=>?_) (fun j hj=>?_)
    ·have hi:j / ks.length < len:=by rw [Nat.div_lt_iff_lt_mul hpos];exact hj
     obtain⟨c,q1,_⟩:=hF (j / ks.length) (j%ks.length) hi (Nat.mod_lt _ hpos)
     rw [Nat.mul_comm,Nat.div_add_mod] at q1
     rw [q1];rfl
    ·have hi:j / ks.length < len:=by rw [Nat.div_lt_iff_lt_mul hpos];exact hj
     have hjm:=Nat.mod_lt j hpos
     obtain⟨c,q1,q2⟩:=hF (j / ks.length) (j%ks.length) hi hjm
     rw [Nat.mul_comm,Nat.div_add_mod] at q1
     rw [q1]
     simp only [AV.cell,Option.getD_some]
     have e1:(((List.range len).map fun i=>(List.range ks.length).map fun j=>F i j).getD (j / ks.length) []).getD (j%ks.length) []=F (j / ks.length) (j%ks.length):=by
      have e2:((List.range len).map fun i=>(List.range ks.length).map fun j=>F i j).getD (j / ks.length) []=(List.range ks.length).map fun j'=>F (j / ks.length) j':=by
       rw [List.getD_eq_getElem?_getD,List.getElem?_map,List.getElem?_range hi];rfl
      rw [e2,List.getD_eq_getElem?_getD,List.getElem?_map,List.getElem?_range hjm];rfl
     rw [e1];exact q2
end Go.Am
end
section
/- Structs whose fields are integers, bools, strings and slices of integers, as arguments. -/
namespace Go.Am
open Go Go.ChangeShapes Go.WideShapes Go.RowKit
variable {P : Program} {H : Type} {enc : TypeId × Value → H} {W : World}
end Go.Am
end
section
namespace Go.Am
open Go Go.Proofs
abbrev sp7:List (Nat×Md):=[(2,.plain),(4,.plain),(5,.plain),(6,.plain),(7,.plain),(21,.plain),(22,.plain)]
abbrev sp8:List (Nat×Md):=[(2,.plain),(4,.plain),(6,.plain),(7,.plain),(94,.plain)]
abbrev sp9:List (Nat×Md):=[(1,.plain),(2,.plain),(4,.plain)]
abbrev a8c:List (Nat×Md):=[(2,.plain),(4,.plain),(5,.plain)]
abbrev a8d:List (Nat×Md):=[(2,.plain),(4,.plain),(5,.plain),(6,.plain),(7,.plain)]
abbrev anM:List (Nat×Md):=[(2,.plain),(4,.plain),(6,.plain),(7,.plain)]
abbrev XY:List (Nat×Md):=[(2,.plain),(4,.plain)]
abbrev agJ:List (Nat×Md):=[(1,.plain),(2,.plain),(3,.plain),(4,.plain)]
abbrev aCq:List (Nat×Md):=[(1,.plain),(2,.plain),(3,.plain),(4,.plain),(23,.plain)]
abbrev aCr:List (Nat×Md):=[(1,.plain),(2,.plain),(6,.plain),(40,.plain)]
abbrev anN:List (Nat×Md):=[(1,.plain),(2,.plain)]
abbrev a8e:List (Nat×Md):=[(1,.plain),(2,.plain),(3,.plain)]
abbrev a8f:List (Nat×Md):=[(1,.plain),(2,.plain),(6,.plain)]
abbrev anO:List (Nat×Md):=[(2,.plain),(6,.plain)]
abbrev Ty6:=Li×Li×Li×Li×Li
abbrev Ty7:=Li×Int×Li×Li×Li×Li×Li
abbrev Ty8:=Li×Li×Li×Li
abbrev Ty9:=Int×Li×Li×Li×Li
abbrev afI:=Li×Li×Int×Li
abbrev ai4:=Li×Li×Li×Int×Li×Li×Int
abbrev aCs:=Li×Li×Int×Li×Li×Int
abbrev YR:=Li×Li×Int
abbrev aQ2:=Int×Li×Li×Int×Li
abbrev EF:=Int×Li×Li×Int×Li×Li
abbrev ai5:=Int×Int×Li×Li×Int×Li×Li
abbrev agK:=Li×Li×Int×Li×Li
def a9W:List hI:=[(110,[some 5],aQ1),(111,[none,none,none,none],aQ0)]
def DX:Env:=dL fP dM a9W
noncomputable abbrev Kf4:=ij DX none (Tryz.f102).results.toList
theorem a9X:EOk Tryz.prog DX:=bL (by exact⟨baH,baF,trivial⟩)
def a9Y(F:Nat):Cuts:={ F:=F,at_:=fun n=>match n with | 4018=>some sp7 | 12014=>some sp8 | _=>none,join:=fun n=>match n with | 1049=>some sp9 | 2047=>some a8c | 3045=>some a8d | 4020=>some sp7 | 11022=>some anM | 12016=>some sp8 | 17003=>some XY | _=>none }
abbrev Ab(F n:Nat){σ:Type}(e:σ→St)(K:Ex→St→Rz)(N:σ→Rz):=Qe DX (a9Y F) (bp Tryz.f102 n) e K N
def aA4:Li×Li→St:=fun (a,b)=>hS [(0,(.agg 8 (.rI .u32 a))),(1,(z11 b))] [] 116 0
abbrev z9 a:=(.cells 8 (.rI .u32 a) true:Blk)
def anP:Ty0→St:=fun (a,b,c)=>hS [(1,(z11 a)),pS 2 0 8,pS 4 1 8] [z9 b,z9 c] 116 0
def anQ:Ty0→St:=fun (a,b,c)=>hS [pS 2 0 8,pS 4 1 8,pS 5 2 64] [z9 a,z9 b,z6 c] 116 0
abbrev z15 a:=(.cells 4 (.rI .u32 a) true:Blk)
def ahV:Ty6→St:=fun (a,b,c,d,e)=>hS [pS 2 0 8,pS 4 1 8,pS 5 2 64,pS 6 3 4,pS 7 4 4] [z9 a,z9 b,z6 c,z15 d,z15 e] 116 0
def ahW:Ty7→St:=fun (a,b,c,d,e,f,g)=>hS [pS 2 0 8,pS 4 1 8,pS 5 2 64,pS 6 3 4,pS 7 4 4,(21,(.agg 64 (.rI .u32 a))),iS 22 b] [z9 c,z9 d,z6 e,z15 f,z15 g] 116 0
def aA5:Ty7→St:=ahW
def Em:Ty8→St:=fun (a,b,c,d)=>hS [pS 2 0 8,pS 4 1 8,pS 6 2 4,pS 7 3 4] [z9 a,z9 b,z15 c,z15 d] 116 0
def ahX:Ty9→St:=fun (a,b,c,d,e)=>hS [pS 2 0 8,pS 4 1 8,pS 6 2 4,pS 7 3 4,iS 94 a] [z9 b,z9 c,z15 d,z15 e] 116 0
def aA6:Ty9→St:=ahX
def Ky:Li×Li→St:=fun (a,b)=>hS [pS 2 0 8,pS 4 1 8] [z9 a,z9 b] 116 0
def akz(F:Nat)(a:Ty0→Rz):Li×Li→Rz:=fun (b,c)=>(a (c,b,[0,0,0,0,0,0,0,0]))
theorem aH8 F Rj1:Ab F 2 aA4 (kq DX Rj1 sp9 Kf4) (akz F (Rj1∘anP)):=fun _=>by kernel_rfl
def akA(F:Nat)(b:Ty0→Rz):Ty0→Rz:=fun (a,c,d)=>(cond (decide (a.length=64)) (b (c,d,(Sha.sched a 64))) none)
theorem aH9 F Rj2:Ab F 6 anP (kq DX Rj2 a8c Kf4) (akA F (Rj2∘anQ)):=fun _=>by kernel_rfl
def akB(F:Nat)(b:Ty6→Rz):Ty0→Rz:=fun (a,c,d)=>(b (a,c,d,(a.take 4),((a.drop 4).take 4)))
theorem aIa F Rj3:Ab F 14 anQ (kq DX Rj3 a8d Kf4) (akB F (Rj3∘ahV)):=fun _=>by kernel_rfl
def akC(F:Nat)(a:Ty7→Rz)(g:Ty8→Rz):Ty6→Rz:=fun (b,c,d,e,f)=>(a (Sha.K,(0:Int),b,c,d,e,f))
theorem aIb F Rj4 Rj5:Ab F 60 ahV (kq DX Rj4 sp7 (kq DX Rj5 anM Kf4)) (akC F (Rj4∘ahW) (Rj5∘Em)):=fun _=>by kernel_rfl
def agL(F:Nat)(h:Ty7→Rz)(i:Ty8→Rz):Ty7→Rz:=fun (d,c,f,g,e,b,a)=>(cond (decide (c < (64:Int))) (cond ((decide (0≤c))&&(decide (c < (64:Int)))) (cond ((decide (0≤c))&&(decide (c < (64:Int)))) (h (d,(IntKind.i64.wrap (c+(1:Int))),f,g,e,[(IntKind.u32.wrap ((IntKind.u32.wrap ((IntKind.u32.wrap ((IntKind.u32.wrap ((IntKind.u32.wrap ((a.getD 3 0)+(Sha.mix (a.getD 0 0) (6:Int) (11:Int) (25:Int))))+(bK .xor .u32 (bK .and .u32 (a.getD 0 0) (a.getD 1 0)) (bK .and .u32 (bK .xor .u32 (4294967295:Int) (a.getD 0 0)) (a.getD 2 0)))))+(d.getD (Int.toNat c) 0)))+(e.getD (Int.toNat c) 0)))+(IntKind.u32.wrap ((Sha.mix (b.getD 0 0) (2:Int) (13:Int) (22:Int))+(bK .xor .u32 (bK .xor .u32 (bK .and .u32 (b.getD 0 0) (b.getD 1 0)) (bK .and .u32 (b.getD 0 0) (b.getD 2 0))) (bK .and .u32 (b.getD 1 0) (b.getD 2 0))))))),(b.getD 0 0),(b.getD 1 0),(b.getD 2 0)],[(IntKind.u32.wrap ((b.getD 3 0)+(IntKind.u32.wrap ((IntKind.u32.wrap ((IntKind.u32.wrap ((IntKind.u32.wrap ((a.getD 3 0)+(Sha.mix (a.getD 0 0) (6:Int) (11:Int) (25:Int))))+(bK .xor .u32 (bK .and .u32 (a.getD 0 0) (a.getD 1 0)) (bK .and .u32 (bK .xor .u32 (4294967295:Int) (a.getD 0 0)) (a.getD 2 0)))))+(d.getD (Int.toNat c) 0)))+(e.getD (Int.toNat c) 0))))),(a.getD 0 0),(a.getD 1 0),(a.getD 2 0)])) none) none) (i (f,g,b,a)))
theorem aIc F Rl1 Rj5:Ab F 244 aA5 (kq DX Rl1 sp7 (aV 0 (kq DX Rj5 anM Kf4))) (agL F (Rl1∘aA5) (Rj5∘Em)):=fun _=>by kernel_rfl
def ai6:Ty7→Li×Int×Li×Li×Li×Li×Li:=fun (a,b,c,d,e,f,g)=>(a,b,c,d,e,f,g)
def auo(F:Nat)(a:Ty8→Rz):Ty7→Rz:=fun v=>eT (fun k=>agL F k a) F (ai6 v)
theorem aId F Rj5:Ab F 122 ahW (aV 0 (kq DX Rj5 anM Kf4)) (auo F (Rj5∘Em)):=lpC ai6 (fun k=>agL F k (Rj5∘Em)) (fun Rl1=>aIc F Rl1 Rj5)
def aup(F:Nat)(a):=auo F a
theorem aIe F Rj5:Ab F 61 ahW (kq DX Rj5 anM Kf4) (aup F (Rj5∘Em)):=biC (aId F Rj5)
def akD(F:Nat)(a):=akC F (aup F a) a
theorem aIf F Rj5:Ab F 30 ahV (kq DX Rj5 anM Kf4) (akD F (Rj5∘Em)):=sqC (fun k=>akC F k (Rj5∘Em)) (fun Rj4=>aIb F Rj4 Rj5) (aIe F Rj5)
def akE(F:Nat)(a:Ty9→Rz)(f:Li×Li→Rz):Ty8→Rz:=fun (b,c,d,e)=>(a ((0:Int),b,c,d,e))
theorem aIg F Rj6 Rj7:Ab F 124 Em (kq DX Rj6 sp8 (kq DX Rj7 XY Kf4)) (akE F (Rj6∘ahX) (Rj7∘Ky)):=fun _=>by kernel_rfl
def aaF(F:Nat)(f:Ty9→Rz)(g:Li×Li→Rz):Ty9→Rz:=fun (a,b,d,c,e)=>(cond (decide (a < (4:Int))) (cond ((decide (0≤a))&&(decide (a < (8:Int)))) (cond ((decide (0≤a))&&(decide (a < (4:Int)))) (cond ((decide (0≤a))&&(decide (a < (8:Int)))) (cond ((decide (0≤(IntKind.i64.wrap (a+(4:Int)))))&&(decide ((IntKind.i64.wrap (a+(4:Int))) < (8:Int)))) (cond ((decide (0≤a))&&(decide (a < (4:Int)))) (cond ((decide (0≤(IntKind.i64.wrap (a+(4:Int)))))&&(decide ((IntKind.i64.wrap (a+(4:Int))) < (8:Int)))) (f ((IntKind.i64.wrap (a+(1:Int))),((b.set (Int.toNat a) (IntKind.u32.wrap ((b.getD (Int.toNat a) 0)+(c.getD (Int.toNat a) 0)))).set (Int.toNat (IntKind.i64.wrap (a+(4:Int)))) (IntKind.u32.wrap (((b.set (Int.toNat a) (IntKind.u32.wrap ((b.getD (Int.toNat a) 0)+(c.getD (Int.toNat a) 0)))).getD (Int.toNat (IntKind.i64.wrap (a+(4:Int)))) 0)+(e.getD (Int.toNat a) 0)))),d,c,e)) none) none) none) none) none) none) (g (b,d)))
theorem aCt F Rl2 Rj7:Ab F 500 aA6 (kq DX Rl2 sp8 (aV 2 (kq DX Rj7 XY Kf4))) (aaF F (Rl2∘aA6) (Rj7∘Ky)):=fun _=>by kernel_rfl
def agM:Ty9→Int×Li×Li×Li×Li:=fun (a,b,c,d,e)=>(a,b,c,d,e)
def anR(F:Nat)(a:Li×Li→Rz):Ty9→Rz:=fun v=>eT (fun k=>aaF F k a) F (agM v)
theorem aCu F Rj7:Ab F 250 ahX (aV 2 (kq DX Rj7 XY Kf4)) (anR F (Rj7∘Ky)):=lpC agM (fun k=>aaF F k (Rj7∘Ky)) (fun Rl2=>aCt F Rl2 Rj7)
def anS(F:Nat)(a):=anR F a
theorem aCv F Rj7:Ab F 125 ahX (kq DX Rj7 XY Kf4) (anS F (Rj7∘Ky)):=biC (aCu F Rj7)
def ahY(F:Nat)(a):=akE F (anS F a) a
theorem aCw F Rj7:Ab F 62 Em (kq DX Rj7 XY Kf4) (ahY F (Rj7∘Ky)):=sqC (fun k=>akE F k (Rj7∘Ky)) (fun Rj6=>aIg F Rj6 Rj7) (aCv F Rj7)
def aA7(F:Nat):Li×Li→Rz:=fun (a,b)=>(some ((.agg 8 (.rI .u32 a)),[]))
theorem aCx F:Ab F 63 Ky Kf4 (aA7 F):=fun _=>by kernel_rfl
def ahZ(F:Nat):=ahY F (aA7 F)
theorem aCy F:Ab F 31 Em Kf4 (ahZ F):=sqC (ahY F) (fun Rj7=>aCw F Rj7) (aCx F)
def anT(F:Nat):=akD F (ahZ F)
theorem aCz F:Ab F 15 ahV Kf4 (anT F):=sqC (akD F) (fun Rj5=>aIf F Rj5) (aCy F)
def anU(F:Nat):=akB F (anT F)
theorem aCA F:Ab F 7 anQ Kf4 (anU F):=sqC (akB F) (fun Rj3=>aIa F Rj3) (aCz F)
def anV(F:Nat):=akA F (anU F)
theorem aCB F:Ab F 3 anP Kf4 (anV F):=sqC (akA F) (fun Rj2=>aH9 F Rj2) (aCA F)
def anW(F:Nat):=akz F (anV F)
theorem aCC F:Ab F 1 aA4 Kf4 (anW F):=sqC (akz F) (fun Rj1=>aH8 F Rj1) (aCB F)
def f102(F:Nat):Li×Li→Rz:=anW F
def aQ3:eP:=fun X H=>match X,H with
 | [(.agg 8 (.rI .u32 a0)),(.vs (.rI .u8 a1) 0 1)],[]=>some ((decide (a1.length=64)),(.agg 8 (.rI .u32 (Sha.comp a0 a1))),[])
 | _,_=>none
theorem aIh(x:Int)(i j k:Nat)(hi:i < 32∧0 < i)(hj:j < 32∧0 < j)(hk:k < 32∧0 < k):Sha.mix x i j k=Sha.S3 x i j k:=by
 unfold Sha.mix Sha.S3
 rw [bM (by omega) (by omega),bM (by omega) (by omega),bM (by omega) (by omega),show(0-(i:Int)) = -(i:Int) by omega,show(0-(j:Int)) = -(j:Int) by omega,show(0-(k:Int)) = -(k:Int) by omega,
  Sha.rotl_neg _ i hi.1 hi.2,Sha.rotl_neg _ j hj.1 hj.2,Sha.rotl_neg _ k hk.1 hk.2]
theorem baJ(x:Int):Sha.mix x 6 11 25=Sha.S3 x 6 11 25:=aIh x 6 11 25 (by decide) (by decide) (by decide)
theorem baK(x:Int):Sha.mix x 2 13 22=Sha.S3 x 2 13 22:=aIh x 2 13 22 (by decide) (by decide) (by decide)
theorem a8g{l:List Int}(h:l.length=8):∃ a b c d e f g i,l=[a,b,c,d,e,f,g,i]:=by
 match l,h with
 | [a,b,c,d,e,f,g,i],_=>exact⟨a,b,c,d,e,f,g,i,rfl⟩
theorem baL(a0 a1:Li)(hp:((decide (a1.length=64)))=true)(h0:okV (.agg 8 (.rI .u32 a0)))(h1:okV (.vs (.rI .u8 a1) 0 1)):∃ F,f102 F (a0,a1)=some ((.agg 8 (.rI .u32 (Sha.comp a0 a1))),[]):=by
 refine⟨65,?_⟩
 simp only [f102,anW,akz,anV,akA,anU,akB,anT,akD,ahZ,akC,aup,auo,ai6]
 rw [hp]
 simp only [cond_true]
 rw [List.take_of_length_le (show(List.drop 4 a0).length≤4 by rw [List.length_drop,(agC h0).1];omega)]
 refine iR (fun i=>(Sha.K,(i:Int),a0,[0,0,0,0,0,0,0,0],Sha.sched a1 64,(Sha.rnds (Sha.sched a1 64) (a0.take 4,a0.drop 4) i).1,(Sha.rnds (Sha.sched a1 64) (a0.take 4,a0.drop 4) i).2)) 64 (by rfl) (fun i hi k=>?_) (fun k=>?_) 65 (by omega)
 ·simp only [agL,cH]
  rw [aK (by omega),aK (by omega),aK (by omega),bM (x:=(i:Int)+1) (by omega) (by omega),baJ,baK]
  rfl
 ·simp only [agL]
  rw [ba (by omega)]
  simp only [ahZ,ahY,akE,anS,anR,agM]
  unfold Sha.comp
  generalize Sha.rnds (Sha.sched a1 64) (a0.take 4,a0.drop 4) 64=t
  obtain⟨v,e⟩:=t
  obtain⟨b0,b1,b2,b3,b4,b5,b6,b7,rfl⟩:=a8g (agC h0).1
  refine iR (fun j=>((j:Int),(match j with
   | 0=>[b0,b1,b2,b3,b4,b5,b6,b7]
   | 1=>[Sha.add b0 (v.getD 0 0),b1,b2,b3,Sha.add b4 (e.getD 0 0),b5,b6,b7]
   | 2=>[Sha.add b0 (v.getD 0 0),Sha.add b1 (v.getD 1 0),b2,b3,Sha.add b4 (e.getD 0 0),Sha.add b5 (e.getD 1 0),b6,b7]
   | 3=>[Sha.add b0 (v.getD 0 0),Sha.add b1 (v.getD 1 0),Sha.add b2 (v.getD 2 0),b3,Sha.add b4 (e.getD 0 0),Sha.add b5 (e.getD 1 0),Sha.add b6 (e.getD 2 0),b7]
   | _=>[Sha.add b0 (v.getD 0 0),Sha.add b1 (v.getD 1 0),Sha.add b2 (v.getD 2 0),Sha.add b3 (v.getD 3 0),Sha.add b4 (e.getD 0 0),Sha.add b5 (e.getD 1 0),Sha.add b6 (e.getD 2 0),Sha.add b7 (e.getD 3 0)]),[0,0,0,0,0,0,0,0],v,e)) 4 (by rfl) (fun j hj k'=>?_) (fun k'=>?_) 65 (by omega)
  ·simp only [aaF,cH]
   have hj':j=0∨j=1∨j=2∨j=3:=by omega
   rcases hj' with rfl | rfl | rfl | rfl <;> rfl
  ·simp only [aaF]
   rw [ba (by omega)]
   rfl
theorem baM:Ck 102 aQ3:=ck a9X Tryz.func102 (by
 intro X H r H' h hX hH
 unfold aQ3 at h;split at h <;> try contradiction
 ·obtain⟨hp,rfl,rfl⟩:=ik h
  obtain⟨F,hF⟩:=baL _ _ hp (hX _ hm0) (hX _ hm1)
  exact⟨_,abC (aCC F) hF⟩)
def baN:List hI:=[]
def V92:Env:=dL fP dM baN
noncomputable abbrev Kf5:=ij V92 none (Tryz.f92).results.toList
theorem baO:EOk Tryz.prog V92:=bL (by exact trivial)
def baP(F:Nat):Cuts:={ F:=F,at_:=fun _=>none,join:=fun _=>none }
abbrev baQ(F n:Nat){σ:Type}(e:σ→St)(K:Ex→St→Rz)(N:σ→Rz):=Qe V92 (baP F) (bp Tryz.f92 n) e K N
def a8h:Unit→St:=fun _=>hS [] [] 3 0
def aYq(F:Nat):Unit→Rz:=fun _=>(some ((.agg 73 (.segs (.cons 8 (.rI .u32 [(1779033703:Int),(3144134277:Int),(1013904242:Int),(2773480762:Int),(1359893119:Int),(2600822924:Int),(528734635:Int),(1541459225:Int)]) (.cons 64 (.rI .u8 (List.replicate 64 0)) (.cons 1 (.one (.int .u64 0)) .nil))))),[]))
theorem aQ4 F:baQ F 1 a8h Kf5 (aYq F):=fun _=>by kernel_rfl
def f92(F:Nat):Unit→Rz:=aYq F
def r92:eP:=fun X H=>match X,H with
 | [],[]=>some (true,(.agg 73 (.segs (.cons 8 (.rI .u32 Sha.iv) (.cons 64 (.rI .u8 (List.replicate 64 0)) (.cons 1 (.one (.int .u64 0)) .nil))))),[])
 | _,_=>none
theorem s92:∃ F,f92 F ()=some ((.agg 73 (.segs (.cons 8 (.rI .u32 Sha.iv) (.cons 64 (.rI .u8 (List.replicate 64 0)) (.cons 1 (.one (.int .u64 0)) .nil))))),[]):=⟨0,rfl⟩
theorem c92:Ck 92 r92:=ck baO Tryz.func92 (by
 intro X H r H' h hX hH
 unfold r92 at h;split at h <;> try contradiction
 ·obtain⟨hp,rfl,rfl⟩:=ik h
  obtain⟨F,hF⟩:=s92
  exact⟨_,abC (aQ4 F) hF⟩)
def baR:List hI:=[(102,[none,some 5],aQ3)]
def V93:Env:=dL fP dM baR
noncomputable abbrev Kf6:=ij V93 none (Tryz.f93).results.toList
theorem baS:EOk Tryz.prog V93:=bL (by exact⟨baM,trivial⟩)
def baT(F:Nat):Cuts:={ F:=F,at_:=fun n=>match n with | 1020=>some sp9 | _=>none,join:=fun n=>match n with | 1026=>some sp9 | 8003=>some XY | _=>none }
abbrev ai7(F n:Nat){σ:Type}(e:σ→St)(K:Ex→St→Rz)(N:σ→Rz):=Qe V93 (baT F) (bp Tryz.f93 n) e K N
abbrev z16 a b c:=(.agg 73 (.segs (.cons 8 (.rI .u32 a) (.cons 64 (.rI .u8 b) (.cons 1 (.one (.int .u64 c)) .nil)))):AV)
def aIi:afI→St:=fun (a,b,c,d)=>hS [(0,(z16 a b c)),(1,.str d)] [] 38 0
abbrev z3 a b c:=(.cells 73 (.segs (.cons 8 (.rI .u32 a) (.cons 64 (.rI .u8 b) (.cons 1 (.one (.int .u64 c)) .nil)))) true:Blk)
def agN:ai4→St:=fun (a,b,c,d,e,f,g)=>hS [(1,.str a),pS 2 0 73,pS 4 1 73] [z3 b c d,z3 e f g] 38 0
def aIj:ai4→St:=agN
def agO:aCs→St:=fun (a,b,c,d,e,f)=>hS [pS 2 0 73,pS 4 1 73] [z3 a b c,z3 d e f] 38 0
def ap0(F:Nat)(a:ai4→Rz):afI→Rz:=fun (b,c,d,e)=>(a (e,b,c,d,[0,0,0,0,0,0,0,0],(List.replicate 64 0),(0:Int)))
theorem aQ5 F Rj1:ai7 F 2 aIi (kq V93 Rj1 sp9 Kf6) (ap0 F (Rj1∘agN)):=fun _=>by kernel_rfl
def ap1(F:Nat)(h:ai4→Rz)(i:aCs→Rz):ai4→Rz:=fun (b,d,c,a,e,f,g)=>(cond (!((b:Li)==([]:Li))) (cond (((decide (0≤(IntKind.i64.wrap (Int.tmod a (64:Int)))))&&(decide ((IntKind.i64.wrap (Int.tmod a (64:Int)))≤(64:Int))))&&true) (cond (((decide (0≤(↑(min b.length (64-(Int.toNat (IntKind.i64.wrap (Int.tmod a (64:Int)))))):Int)))&&(decide ((↑(min b.length (64-(Int.toNat (IntKind.i64.wrap (Int.tmod a (64:Int)))))):Int)≤(↑b.length:Int))))&&(decide ((↑b.length:Int)≤(↑b.length:Int)))) (cond ((IntKind.i64.wrap ((IntKind.i64.wrap (Int.tmod a (64:Int)))+(↑(min b.length (64-(Int.toNat (IntKind.i64.wrap (Int.tmod a (64:Int)))))):Int)))==(64:Int)) (cond (decide (((c.take (Int.toNat (IntKind.i64.wrap (Int.tmod a (64:Int))))++(b.take (min b.length (64-(Int.toNat (IntKind.i64.wrap (Int.tmod a (64:Int)))))))++c.drop ((Int.toNat (IntKind.i64.wrap (Int.tmod a (64:Int))))+(min b.length (64-(Int.toNat (IntKind.i64.wrap (Int.tmod a (64:Int)))))))).take 64).length=64)) (h (((b.take b.length).drop (Int.toNat (↑(min b.length (64-(Int.toNat (IntKind.i64.wrap (Int.tmod a (64:Int)))))):Int))),(Sha.comp d ((c.take (Int.toNat (IntKind.i64.wrap (Int.tmod a (64:Int))))++(b.take (min b.length (64-(Int.toNat (IntKind.i64.wrap (Int.tmod a (64:Int)))))))++c.drop ((Int.toNat (IntKind.i64.wrap (Int.tmod a (64:Int))))+(min b.length (64-(Int.toNat (IntKind.i64.wrap (Int.tmod a (64:Int)))))))).take 64)),(c.take (Int.toNat (IntKind.i64.wrap (Int.tmod a (64:Int))))++(b.take (min b.length (64-(Int.toNat (IntKind.i64.wrap (Int.tmod a (64:Int)))))))++c.drop ((Int.toNat (IntKind.i64.wrap (Int.tmod a (64:Int))))+(min b.length (64-(Int.toNat (IntKind.i64.wrap (Int.tmod a (64:Int)))))))),(IntKind.u64.wrap (a+(IntKind.u64.wrap (↑(min b.length (64-(Int.toNat (IntKind.i64.wrap (Int.tmod a (64:Int)))))):Int)))),e,f,g)) none) (h (((b.take b.length).drop (Int.toNat (↑(min b.length (64-(Int.toNat (IntKind.i64.wrap (Int.tmod a (64:Int)))))):Int))),d,(c.take (Int.toNat (IntKind.i64.wrap (Int.tmod a (64:Int))))++(b.take (min b.length (64-(Int.toNat (IntKind.i64.wrap (Int.tmod a (64:Int)))))))++c.drop ((Int.toNat (IntKind.i64.wrap (Int.tmod a (64:Int))))+(min b.length (64-(Int.toNat (IntKind.i64.wrap (Int.tmod a (64:Int)))))))),(IntKind.u64.wrap (a+(IntKind.u64.wrap (↑(min b.length (64-(Int.toNat (IntKind.i64.wrap (Int.tmod a (64:Int)))))):Int)))),e,f,g))) none) none) (i (d,c,a,e,f,g)))
theorem aQ6 F Rl1 Rj2:ai7 F 24 aIj (kq V93 Rl1 sp9 (aV 0 (kq V93 Rj2 XY Kf6))) (ap1 F (Rl1∘aIj) (Rj2∘agO)):=fun _=>by kernel_rfl
def anX:ai4→Li×Li×Li×Int×Li×Li×Int:=fun (a,b,c,d,e,f,g)=>(a,b,c,d,e,f,g)
def aCD(F:Nat)(a:aCs→Rz):ai4→Rz:=fun v=>eT (fun k=>ap1 F k a) F (anX v)
theorem aQ7 F Rj2:ai7 F 12 agN (aV 0 (kq V93 Rj2 XY Kf6)) (aCD F (Rj2∘agO)):=lpC anX (fun k=>ap1 F k (Rj2∘agO)) (fun Rl1=>aQ6 F Rl1 Rj2)
def ap2(F:Nat)(a):=aCD F a
theorem aQ8 F Rj2:ai7 F 6 agN (kq V93 Rj2 XY Kf6) (ap2 F (Rj2∘agO)):=biC (aQ7 F Rj2)
def aYr(F:Nat):aCs→Rz:=fun (a,b,c,d,e,f)=>(some ((.agg 73 (.segs (.cons 8 (.rI .u32 a) (.cons 64 (.rI .u8 b) (.cons 1 (.one (.int .u64 c)) .nil))))),[]))
theorem aQ9 F:ai7 F 7 agO Kf6 (aYr F):=fun _=>by kernel_rfl
def aCE(F:Nat):=ap2 F (aYr F)
theorem aRa F:ai7 F 3 agN Kf6 (aCE F):=sqC (ap2 F) (fun Rj2=>aQ8 F Rj2) (aQ9 F)
def aCF(F:Nat):=ap0 F (aCE F)
theorem aRb F:ai7 F 1 aIi Kf6 (aCF F):=sqC (ap0 F) (fun Rj1=>aQ5 F Rj1) (aRa F)
def f93(F:Nat):afI→Rz:=aCF F
def r93:eP:=fun X H=>match X,H with
 | [(.agg 73 (.segs (.cons 8 (.rI .u32 a0_0) (.cons 64 (.rI .u8 a0_1) (.cons 1 (.one (.int .u64 a0_2)) .nil))))),.str a1],[]=>some (true,(.agg 73 (.segs (.cons 8 (.rI .u32 (Sha.addS (a0_0,a0_1,a0_2) a1).1) (.cons 64 (.rI .u8 (Sha.addS (a0_0,a0_1,a0_2) a1).2.1) (.cons 1 (.one (.int .u64 (Sha.addS (a0_0,a0_1,a0_2) a1).2.2)) .nil))))),[])
 | _,_=>none
theorem aIk{a b:List Int}{n:Int}(h:okV (.agg 73 (.segs (.cons 8 (.rI .u32 a) (.cons 64 (.rI .u8 b) (.cons 1 (.one (.int .u64 n)) .nil)))))):a.length=8∧b.length=64∧0≤n∧n≤18446744073709551615:=by
 obtain⟨h1,_,h3⟩:=h
 simp only [AV.wf,AVs.wfS,AV.size,true_and,and_true] at h1
 have:=h3 72 (by omega)
 exact⟨h1.1,h1.2.1,this⟩
theorem s93(a0_0 a0_1:Li)(a0_2:Int)(a1:Li)(h0:okV (.agg 73 (.segs (.cons 8 (.rI .u32 a0_0) (.cons 64 (.rI .u8 a0_1) (.cons 1 (.one (.int .u64 a0_2)) .nil))))))(h1:okV (.str a1)):∃ F,f93 F (a0_0,a0_1,a0_2,a1)=some ((.agg 73 (.segs (.cons 8 (.rI .u32 (Sha.addS (a0_0,a0_1,a0_2) a1).1) (.cons 64 (.rI .u8 (Sha.addS (a0_0,a0_1,a0_2) a1).2.1) (.cons 1 (.one (.int .u64 (Sha.addS (a0_0,a0_1,a0_2) a1).2.2)) .nil))))),[]):=by
 obtain⟨_,hb,hn0,hn1⟩:=aIk h0
 refine⟨a1.length+1,?_⟩
 simp only [f93,aCF,ap0,aCE,ap2,aCD,anX]
 generalize hR:Sha.addS (a0_0,a0_1,a0_2) a1=R
 refine pv (fun m s=>s.1.length=m∧m < 4611686018427387904∧s.2.2.1.length=64∧0≤s.2.2.2.1∧s.2.2.2.1≤18446744073709551615∧Sha.addS (s.2.1,s.2.2.1,s.2.2.2.1) s.1=R) ?_ _ a1.length _ (by omega) ⟨rfl,h1.1,hb,hn0,hn1,hR⟩
 rintro m ⟨t1,x2,x3,x4,x5,x6,x7⟩ k ⟨g1,gm,g2,g3,g4,g5⟩ hk
 simp only at g1 g2 g3 g4 g5 hk
 simp only [ap1]
 by_cases ht:t1=[]
 ·subst ht
  rw [Sha.addS_nil] at g5
  subst g5
  rfl
 ·have hne:(!(t1==[]))=true:=by simp [ht]
  have hpos:0 < t1.length:=List.length_pos_iff.mpr ht
  rw [hne]
  simp only [cond_true]
  have hat:IntKind.i64.wrap (Int.tmod x4 (64:Int))=((x4%64).toNat:Int):=by
   rw [Int.tmod_eq_emod_of_nonneg g3,bM (by omega) (by omega)];omega
  simp only [hat,Int.toNat_natCast,Bool.and_true,cH,ant]
  generalize hA:(x4%64).toNat=A
  generalize hK:min t1.length (64-A)=k0
  rw [aK (by omega),aK (by omega),bM (x:=(A:Int)+(k0:Int)) (by omega) (by omega),List.take_of_length_le (Nat.le_refl t1.length)]
  have hch:=Sha.addS_chunk (t1.take k0) x2 x3 x4 g2 g3 g4 (by rw [List.length_take];omega)
  have hlen:(t1.take k0).length=k0:=by rw [List.length_take];omega
  rw [hA,hlen] at hch
  have hsplit:Sha.addS (x2,x3,x4) t1=Sha.addS (Sha.addS (x2,x3,x4) (t1.take k0)) (t1.drop k0):=by
   rw [← Sha.addS_append,List.take_append_drop]
  rw [hch] at hsplit
  have hw:IntKind.u64.wrap (x4+IntKind.u64.wrap (k0:Int))=IntKind.u64.wrap (x4+(k0:Int)):=by simp only [DU];omega
  have hx3:(x3.take A++t1.take k0++x3.drop (A+k0)).length=64:=by simp [g2];omega
  by_cases h64:A+k0=64
  ·rw [aK (show((A:Int)+(k0:Int)=64) by omega),List.take_of_length_le (l:=(x3.take A++t1.take k0++x3.drop (A+k0))) (by rw [hx3];exact Nat.le_refl _),aK hx3]
   rw [if_pos h64] at hsplit
   refine hk (m-k0) _ (by omega) ⟨by simp only [];rw [List.length_drop];omega,by omega,hx3,?_,?_,?_⟩
   ·simp only [DU];omega
   ·simp only [DU];omega
   ·simp only [];rw [hw,← hsplit];exact g5
  ·rw [ba (show ¬ ((A:Int)+(k0:Int)=64) by omega)]
   rw [if_neg h64] at hsplit
   refine hk (m-k0) _ (by omega) ⟨by simp only [];rw [List.length_drop];omega,by omega,hx3,?_,?_,?_⟩
   ·simp only [DU];omega
   ·simp only [DU];omega
   ·simp only [];rw [hw,← hsplit];exact g5
theorem c93:Ck 93 r93:=ck baS Tryz.func93 (by
 intro X H r H' h hX hH
 unfold r93 at h;split at h <;> try contradiction
 ·obtain⟨hp,rfl,rfl⟩:=ik h
  obtain⟨F,hF⟩:=s93 _ _ _ _ (hX _ hm0) (hX _ hm1)
  exact⟨_,abC (aRb F) hF⟩)
def baU:List hI:=[(93,[none,none],r93)]
def V94:Env:=dL fP dM baU
noncomputable abbrev Kf7:=ij V94 none (Tryz.f94).results.toList
theorem baV:EOk Tryz.prog V94:=bL (by exact⟨c93,trivial⟩)
def baW(F:Nat):Cuts:={ F:=F,at_:=fun n=>match n with | 3008=>some agJ | 6012=>some aCq | 13012=>some aCr | _=>none,join:=fun n=>match n with | 1056=>some anN | 2054=>some a8e | 3052=>some agJ | 5041=>some agJ | 6014=>some aCq | 10024=>some sp9 | 11022=>some anN | 12020=>some a8f | 13014=>some aCr | 17003=>some anO | _=>none }
abbrev zM(F n:Nat){σ:Type}(e:σ→St)(K:Ex→St→Rz)(N:σ→Rz):=Qe V94 (baW F) (bp Tryz.f94 n) e K N
def aIl:YR→St:=fun (a,b,c)=>hS [(0,(z16 a b c))] [] 58 0
abbrev z8 a:=(.cells 32 (.rI .u8 a) true:Blk)
def akF:afI→St:=fun (a,b,c,d)=>hS [pS 1 0 73,pS 2 1 32] [z3 a b c,z8 d] 58 0
def auq:aQ2→St:=fun (a,b,c,d,e)=>hS [pS 1 0 73,pS 2 1 32,(3,.int .u64 a)] [z3 b c d,z8 e] 58 0
abbrev z10 a b:=(.cells a (.rI .u8 b) true:Blk)
def abB:EF→St:=fun (b,c,d,e,f,a)=>hS [pS 1 0 73,pS 2 1 32,(3,.int .u64 b),(4,.own 2 0 1)] [z3 c d e,z8 f,z10 a.length a] 58 0
def aIm:EF→St:=abB
def Wo:EF→St:=abB
def akG:ai5→St:=fun (b,c,d,e,f,g,a)=>hS [pS 1 0 73,pS 2 1 32,(3,.int .u64 b),(4,.own 2 0 1),iS 23 c] [z3 d e f,z8 g,z10 a.length a] 58 0
def aIn:ai5→St:=akG
def PZ:agK→St:=fun (b,c,d,e,a)=>hS [pS 1 0 73,pS 2 1 32,(4,.own 2 0 1)] [z3 b c d,z8 e,z10 a.length a] 58 0
def aur:afI→St:=akF
def akH:agK→St:=fun (a,b,c,d,e)=>hS [pS 1 0 73,pS 2 1 32,pS 6 2 32] [z3 a b c,z8 d,z8 e] 58 0
def akI:EF→St:=fun (a,b,c,d,e,f)=>hS [pS 1 0 73,pS 2 1 32,pS 6 2 32,iS 40 a] [z3 b c d,z8 e,z8 f] 58 0
def aIo:EF→St:=akI
def Kz:Li×Li→St:=fun (a,b)=>hS [pS 2 0 32,pS 6 1 32] [z8 a,z8 b] 58 0
def ap3(F:Nat)(a:afI→Rz):YR→Rz:=fun (b,c,d)=>(a (b,c,d,(List.replicate 32 0)))
theorem aRc F Rj1:zM F 2 aIl (kq V94 Rj1 anN Kf7) (ap3 F (Rj1∘akF)):=fun _=>by kernel_rfl
def ap4(F:Nat)(b:aQ2→Rz):afI→Rz:=fun (c,d,a,e)=>(b ((IntKind.u64.wrap ((8:Int)*a)),c,d,a,e))
theorem aRd F Rj2:zM F 6 akF (kq V94 Rj2 a8e Kf7) (ap4 F (Rj2∘auq)):=fun _=>by kernel_rfl
def ap5(F:Nat)(a:EF→Rz):aQ2→Rz:=fun (b,c,d,e,f)=>(a (b,c,d,e,f,[(128:Int)]))
theorem aRe F Rj3:zM F 14 auq (kq V94 Rj3 agJ Kf7) (ap5 F (Rj3∘abB)):=fun _=>by kernel_rfl
def akJ(F:Nat)(g h:EF→Rz):EF→Rz:=fun (c,d,e,b,f,a)=>(cond ((Int.tmod (IntKind.i64.wrap ((IntKind.i64.wrap b)+(↑a.length:Int))) (64:Int)) != (56:Int)) (cond (decide ((a.length+1) < 1073741824)) (g (c,d,e,b,f,(a++[(0:Int)]))) none) (h (c,d,e,b,f,a)))
theorem aRf F Rl1 Rj4:zM F 120 aIm (kq V94 Rl1 agJ (aV 0 (kq V94 Rj4 agJ Kf7))) (akJ F (Rl1∘aIm) (Rj4∘Wo)):=fun _=>by kernel_rfl
def anY:EF→Int×Li×Li×Int×Li×Li:=fun (a,b,c,d,e,f)=>(a,b,c,d,e,f)
def aCG(F:Nat)(a:EF→Rz):EF→Rz:=fun v=>eT (fun k=>akJ F k a) F (anY v)
theorem aRg F Rj4:zM F 60 abB (aV 0 (kq V94 Rj4 agJ Kf7)) (aCG F (Rj4∘Wo)):=lpC anY (fun k=>akJ F k (Rj4∘Wo)) (fun Rl1=>aRf F Rl1 Rj4)
def ap6(F:Nat)(a):=aCG F a
theorem aRh F Rj4:zM F 30 abB (kq V94 Rj4 agJ Kf7) (ap6 F (Rj4∘Wo)):=biC (aRg F Rj4)
def ap7(F:Nat)(a:ai5→Rz)(h:agK→Rz):EF→Rz:=fun (b,c,d,e,f,g)=>(a (b,(0:Int),c,d,e,f,g))
theorem aRi F Rj5 Rj6:zM F 124 Wo (kq V94 Rj5 aCq (kq V94 Rj6 sp9 Kf7)) (ap7 F (Rj5∘akG) (Rj6∘PZ)):=fun _=>by kernel_rfl
def akK(F:Nat)(h:ai5→Rz)(i:agK→Rz):ai5→Rz:=fun (c,a,d,e,f,g,b)=>(cond (decide (a < (8:Int))) (cond (decide (0≤(IntKind.i64.wrap ((56:Int)-(IntKind.i64.wrap ((8:Int)*a)))))) (cond (decide ((b.length+1) < 1073741824)) (h (c,(IntKind.i64.wrap (a+(1:Int))),d,e,f,g,(b++[(IntKind.u8.wrap (Int.fdiv c (2^(min (Int.toNat (IntKind.i64.wrap ((56:Int)-(IntKind.i64.wrap ((8:Int)*a))))) 64))))]))) none) none) (i (d,e,f,g,b)))
theorem aRj F Rl2 Rj6:zM F 500 aIn (kq V94 Rl2 aCq (aV 2 (kq V94 Rj6 sp9 Kf7))) (akK F (Rl2∘aIn) (Rj6∘PZ)):=fun _=>by kernel_rfl
def anZ:ai5→Int×Int×Li×Li×Int×Li×Li:=fun (a,b,c,d,e,f,g)=>(a,b,c,d,e,f,g)
def aCH(F:Nat)(a:agK→Rz):ai5→Rz:=fun v=>eT (fun k=>akK F k a) F (anZ v)
theorem aRk F Rj6:zM F 250 akG (aV 2 (kq V94 Rj6 sp9 Kf7)) (aCH F (Rj6∘PZ)):=lpC anZ (fun k=>akK F k (Rj6∘PZ)) (fun Rl2=>aRj F Rl2 Rj6)
def aus(F:Nat)(a):=aCH F a
theorem aIp F Rj6:zM F 125 akG (kq V94 Rj6 sp9 Kf7) (aus F (Rj6∘PZ)):=biC (aRk F Rj6)
def akL(F:Nat)(a):=ap7 F (aus F a) a
theorem aIq F Rj6:zM F 62 Wo (kq V94 Rj6 sp9 Kf7) (akL F (Rj6∘PZ)):=sqC (fun k=>ap7 F k (Rj6∘PZ)) (fun Rj5=>aRi F Rj5 Rj6) (aIp F Rj6)
def akM(F:Nat)(e:afI→Rz):agK→Rz:=fun (a,b,c,f,d)=>(e ((Sha.addS (a,b,c) d).1,(Sha.addS (a,b,c) d).2.1,(Sha.addS (a,b,c) d).2.2,f))
theorem aIr F Rj7:zM F 126 PZ (kq V94 Rj7 anN Kf7) (akM F (Rj7∘aur)):=fun _=>by kernel_rfl
def akN(F:Nat)(a:agK→Rz):afI→Rz:=fun (b,c,d,e)=>(a (b,c,d,e,(List.replicate 32 0)))
theorem aIs F Rj8:zM F 254 aur (kq V94 Rj8 a8f Kf7) (akN F (Rj8∘akH)):=fun _=>by kernel_rfl
def akO(F:Nat)(a:EF→Rz)(g:Li×Li→Rz):agK→Rz:=fun (b,c,d,e,f)=>(a ((0:Int),b,c,d,e,f))
theorem aIt F Rj9 Rj10:zM F 1020 akH (kq V94 Rj9 aCr (kq V94 Rj10 anO Kf7)) (akO F (Rj9∘akI) (Rj10∘Kz)):=fun _=>by kernel_rfl
def agS(F:Nat)(e:EF→Rz)(f:Li×Li→Rz):EF→Rz:=fun (a,b,g,h,c,d)=>(cond (decide (a < (32:Int))) (cond ((decide (0≤(IntKind.i64.wrap (Int.tdiv a (4:Int)))))&&(decide ((IntKind.i64.wrap (Int.tdiv a (4:Int))) < (8:Int)))) (cond (decide (0≤(IntKind.i64.wrap ((24:Int)-(IntKind.i64.wrap ((8:Int)*(Int.tmod a (4:Int)))))))) (cond ((decide (0≤a))&&(decide (a < (32:Int)))) (e ((IntKind.i64.wrap (a+(1:Int))),b,g,h,c,(d.set (Int.toNat a) (IntKind.u8.wrap (Int.fdiv (b.getD (Int.toNat (IntKind.i64.wrap (Int.tdiv a (4:Int)))) 0) (2^(min (Int.toNat (IntKind.i64.wrap ((24:Int)-(IntKind.i64.wrap ((8:Int)*(Int.tmod a (4:Int))))))) 32))))))) none) none) none) (f (c,d)))
theorem aIu F Rl3 Rj10:zM F 4084 aIo (kq V94 Rl3 aCr (aV 4 (kq V94 Rj10 anO Kf7))) (agS F (Rl3∘aIo) (Rj10∘Kz)):=fun _=>by kernel_rfl
def ai8:EF→Int×Li×Li×Int×Li×Li:=fun (a,b,c,d,e,f)=>(a,b,c,d,e,f)
def aut(F:Nat)(a:Li×Li→Rz):EF→Rz:=fun v=>eT (fun k=>agS F k a) F (ai8 v)
theorem aIv F Rj10:zM F 2042 akI (aV 4 (kq V94 Rj10 anO Kf7)) (aut F (Rj10∘Kz)):=lpC ai8 (fun k=>agS F k (Rj10∘Kz)) (fun Rl3=>aIu F Rl3 Rj10)
def auu(F:Nat)(a):=aut F a
theorem aIw F Rj10:zM F 1021 akI (kq V94 Rj10 anO Kf7) (auu F (Rj10∘Kz)):=biC (aIv F Rj10)
def akP(F:Nat)(a):=akO F (auu F a) a
theorem aIx F Rj10:zM F 510 akH (kq V94 Rj10 anO Kf7) (akP F (Rj10∘Kz)):=sqC (fun k=>akO F k (Rj10∘Kz)) (fun Rj9=>aIt F Rj9 Rj10) (aIw F Rj10)
def aIy(F:Nat):Li×Li→Rz:=fun (b,a)=>(some ((.agg 32 (.rI .u8 a)),[]))
theorem aIz F:zM F 511 Kz Kf7 (aIy F):=fun _=>by kernel_rfl
def auv(F:Nat):=akP F (aIy F)
theorem aIA F:zM F 255 akH Kf7 (auv F):=sqC (akP F) (fun Rj10=>aIx F Rj10) (aIz F)
def auw(F:Nat):=akN F (auv F)
theorem aIB F:zM F 127 aur Kf7 (auw F):=sqC (akN F) (fun Rj8=>aIs F Rj8) (aIA F)
def auK(F:Nat):=akM F (auw F)
theorem aIC F:zM F 63 PZ Kf7 (auK F):=sqC (akM F) (fun Rj7=>aIr F Rj7) (aIB F)
def auL(F:Nat):=akL F (auK F)
theorem aID F:zM F 31 Wo Kf7 (auL F):=sqC (akL F) (fun Rj6=>aIq F Rj6) (aIC F)
def auM(F:Nat):=ap6 F (auL F)
theorem aIE F:zM F 15 abB Kf7 (auM F):=sqC (ap6 F) (fun Rj4=>aRh F Rj4) (aID F)
def auN(F:Nat):=ap5 F (auM F)
theorem aIF F:zM F 7 auq Kf7 (auN F):=sqC (ap5 F) (fun Rj3=>aRe F Rj3) (aIE F)
def auO(F:Nat):=ap4 F (auN F)
theorem aIG F:zM F 3 akF Kf7 (auO F):=sqC (ap4 F) (fun Rj2=>aRd F Rj2) (aIF F)
def auP(F:Nat):=ap3 F (auO F)
theorem aIH F:zM F 1 aIl Kf7 (auP F):=sqC (ap3 F) (fun Rj1=>aRc F Rj1) (aIG F)
def f94(F:Nat):YR→Rz:=auP F
def r94:eP:=fun X H=>match X,H with
 | [(.agg 73 (.segs (.cons 8 (.rI .u32 a0_0) (.cons 64 (.rI .u8 a0_1) (.cons 1 (.one (.int .u64 a0_2)) .nil)))))],[]=>some ((decide (a0_2≤9223372036854775000)),(.agg 32 (.rI .u8 (Sha.fin (a0_0,a0_1,a0_2)))),[])
 | _,_=>none
theorem s94(a0_0 a0_1:Li)(a0_2:Int)(hp:((decide (a0_2≤9223372036854775000)))=true)(h0:okV (.agg 73 (.segs (.cons 8 (.rI .u32 a0_0) (.cons 64 (.rI .u8 a0_1) (.cons 1 (.one (.int .u64 a0_2)) .nil)))))):∃ F,f94 F (a0_0,a0_1,a0_2)=some ((.agg 32 (.rI .u8 (Sha.fin (a0_0,a0_1,a0_2)))),[]):=by
 obtain⟨h8,hb,hn0,hn1⟩:=aIk h0
 have hn:a0_2≤9223372036854775000:=of_decide_eq_true hp
 refine⟨65,?_⟩
 simp only [f94,auP,ap3,auO,ap4,auN,ap5,auM,ap6,aCG,anY]
 refine iR (fun i=>(IntKind.u64.wrap (8*a0_2),a0_0,a0_1,a0_2,List.replicate 32 0,128 :: List.replicate i 0)) ((55-a0_2)%64).toNat (by rfl) (fun i hi k=>?_) (fun k=>?_) 65 (by omega)
 ·simp only [akJ,List.length_cons,List.length_replicate,JX]
  rw [bM (x:=a0_2) (by omega) (by omega),bM (x:=a0_2+((i+1:Nat):Int)) (by omega) (by omega),JY (by omega),aK (by omega),aK (by omega)]
  rw [show List.replicate (i+1) (0:Int)=List.replicate i 0++[0] from List.replicate_succ'];rfl
 ·simp only [akJ,List.length_cons,List.length_replicate,JX]
  rw [bM (x:=a0_2) (by omega) (by omega),bM (x:=a0_2+((((55-a0_2)%64).toNat+1:Nat):Int)) (by omega) (by omega),JY (by omega),ba (by omega)]
  generalize hP:(128:Int) :: List.replicate ((55-a0_2)%64).toNat 0=P
  have hPl:P.length≤64:=by rw [← hP];simp;omega
  generalize hM:IntKind.u64.wrap (8*a0_2)=M
  simp only [auL,akL,ap7,aus,aCH,anZ]
  refine iR (fun j=>(M,(j:Int),a0_0,a0_1,a0_2,List.replicate 32 0,P++(List.range j).map fun i=>IntKind.u8.wrap (M.fdiv (2^(56-8*i))))) 8 (by simp) (fun j hj k'=>?_) (fun k'=>?_) 65 (by omega)
  ·simp only [akK,List.length_append,List.length_map,List.length_range]
   rw [bM (x:=8*(j:Int)) (by omega) (by omega),bM (x:=56-8*(j:Int)) (by omega) (by omega),bM (x:=(j:Int)+1) (by omega) (by omega),aK (by omega),aK (by omega),aK (by omega)]
   rw [show min (56-8*(j:Int)).toNat 64=56-8*j by omega,List.range_succ,List.map_append,List.append_assoc]
   rfl
  ·simp only [akK]
   rw [ba (by omega)]
   simp only [auK,akM,auw,akN,auv,akP,akO,auu,aut,ai8]
   have hpad:P++(List.range 8).map (fun i=>IntKind.u8.wrap (M.fdiv (2^(56-8*i))))=Sha.pad a0_2:=by rw [← hP,← hM];rfl
   rw [hpad]
   show eT _ _ _=some (AV.agg 32 (AV.rI IntKind.u8 (Sha.out (Sha.addS (a0_0,a0_1,a0_2) (Sha.pad a0_2)).1)),[])
   generalize Sha.addS (a0_0,a0_1,a0_2) (Sha.pad a0_2)=R
   obtain⟨R1,R2,R3⟩:=R
   refine iR (fun i=>((i:Int),R1,R2,R3,List.replicate 32 0,(List.range i).map (fun i=>IntKind.u8.wrap ((R1.getD (i / 4) 0).fdiv (2^(24-8*(i%4)))))++List.replicate (32-i) 0)) 32 (by rfl) (fun i hi k''=>?_) (fun k''=>?_) 65 (by omega)
   ·simp only [agS,cH]
    rw [Kx (by omega),JY (by omega),bM (x:=(i:Int) / 4) (by omega) (by omega),bM (x:=8*((i:Int)%4)) (by omega) (by omega),bM (x:=24-8*((i:Int)%4)) (by omega) (by omega),bM (x:=(i:Int)+1) (by omega) (by omega),
     aK (by omega),aK (by omega),aK (by omega),aK (by omega)]
    rw [show min (24-8*((i:Int)%4)).toNat 32=24-8*(i%4) by omega,show((i:Int) / 4).toNat=i / 4 by omega,Int.toNat_natCast,ai2 _ 0 32 i hi rfl]
    rfl
   ·simp only [agS]
    rw [ba (by omega),Nat.sub_self,List.replicate_zero,List.append_nil]
    rfl
theorem c94:Ck 94 r94:=ck baV Tryz.func94 (by
 intro X H r H' h hX hH
 unfold r94 at h;split at h <;> try contradiction
 ·obtain⟨hp,rfl,rfl⟩:=ik h
  obtain⟨F,hF⟩:=s94 _ _ _ hp (hX _ hm0)
  exact⟨_,abC (aIH F) hF⟩)
def baX:List hI:=[(92,[],r92),(93,[none,none],r93),(94,[none],r94)]
def V75:Env:=dL fP dM baX
noncomputable abbrev Kf8:=ij V75 none (Tryz.f75).results.toList
theorem baY:EOk Tryz.prog V75:=bL (by exact⟨c92,c93,c94,trivial⟩)
def baZ(F:Nat):Cuts:={ F:=F,at_:=fun _=>none,join:=fun _=>none }
abbrev ba0(F n:Nat){σ:Type}(e:σ→St)(K:Ex→St→Rz)(N:σ→Rz):=Qe V75 (baZ F) (bp Tryz.f75 n) e K N
def a8i:Li→St:=fun a=>hS [(0,(z11 a))] [] 8 0
def aCI(F:Nat):Li→Rz:=fun a=>(cond (decide ((Sha.addS (Sha.iv,(List.replicate 64 0),(0:Int)) a).2.2≤9223372036854775000)) (some ((.agg 32 (.rI .u8 (Sha.fin ((Sha.addS (Sha.iv,(List.replicate 64 0),(0:Int)) a).1,(Sha.addS (Sha.iv,(List.replicate 64 0),(0:Int)) a).2.1,(Sha.addS (Sha.iv,(List.replicate 64 0),(0:Int)) a).2.2)))),[])) none)
theorem aRl F:ba0 F 1 a8i Kf8 (aCI F):=fun _=>by kernel_rfl
def f75(F:Nat):Li→Rz:=aCI F
def r75:eP:=fun X H=>match X,H with
 | [(.vs (.rI .u8 a0) 0 1)],[]=>some (true,(.agg 32 (.rI .u8 (Sha.hash a0))),[])
 | _,_=>none
theorem s75(a0:Li)(h0:okV (.vs (.rI .u8 a0) 0 1)):∃ F,f75 F a0=some ((.agg 32 (.rI .u8 (Sha.hash a0))),[]):=by
 refine⟨0,?_⟩
 have:=h0.2
 simp only [f75,aCI]
 rw [Sha.addS_n _ _ _ _ (by omega) (by omega),aK (by rw [DU];omega),← Sha.addS_n _ Sha.iv (List.replicate 64 0) _ (by omega) (by omega)]
 rfl
theorem c75:Ck 75 r75:=ck baY Tryz.func75 (by
 intro X H r H' h hX hH
 unfold r75 at h;split at h <;> try contradiction
 ·obtain⟨hp,rfl,rfl⟩:=ik h
  obtain⟨F,hF⟩:=s75 _ (hX _ hm0)
  exact⟨_,abC (aRl F) hF⟩)
end Go.Am
end
section
namespace Go.Am
open Go Go.Proofs
abbrev P0:List (Nat×Md):=[(0,.plain),(2,.plain),(3,.plain),(4,.plain)]
abbrev aCJ:List (Nat×Md):=[(2,.plain),(3,.plain),(5,.plain)]
abbrev agT:List (Nat×Md):=[(0,.plain),(2,.plain)]
abbrev xe:List (Nat×Md):=[(0,.plain),(3,.plain)]
abbrev aCK:List (Nat×Md):=[(3,.plain),(4,.plain),(5,.plain)]
abbrev vc:List (Nat×Md):=[(2,.plain),(3,.plain),(4,.plain),(5,.plain)]
abbrev aCL:List (Nat×Md):=[(2,.plain),(3,.plain),(4,.plain),(5,.plain),(6,.plain),(7,.plain),(8,.plain),(9,.plain),(10,.plain),(11,.plain),(12,.plain),(13,.plain),(14,.plain),(15,.plain)]
abbrev aCM:List (Nat×Md):=[(2,.plain),(3,.plain),(18,.plain),(19,.plain)]
abbrev a8j:List (Nat×Md):=[(2,.plain),(3,.plain),(4,.plain)]
abbrev a8k:List (Nat×Md):=[(2,.plain),(3,.plain),(4,.plain),(5,.plain),(6,.plain)]
abbrev a8l:List (Nat×Md):=[(2,.plain),(3,.plain),(4,.plain),(5,.plain),(6,.plain),(7,.plain),(8,.plain),(9,.plain),(10,.plain),(11,.plain),(12,.plain),(13,.plain),(14,.plain)]
abbrev an0:List (Nat×Md):=[(2,.plain),(3,.plain),(4,.plain),(5,.plain),(7,.plain),(8,.plain),(9,.plain),(10,.plain),(11,.plain),(12,.plain),(13,.plain),(14,.plain)]
abbrev a8m:List (Nat×Md):=[(2,.plain),(3,.plain),(18,.plain)]
abbrev an1:List (Nat×Md):=[(2,.plain),(18,.plain)]
abbrev ai9:=Int×Li×Li
abbrev zX:=Int×Li×Li×Li
abbrev aRm:=Int×Int×Int×Int×Int×Int×Int×Int×Int×Li×Li×Li×Li
abbrev aja:=Int×Int×Int×Int×Int×Int×Int×Int×Int×Int×Li×Li×Li×Li
abbrev auQ:=Int×Int×Int×Int×Int×Int×Int×Int×Int×Li×Li×Li
def a9Z:List hI:=[]
def aRn:Env:=dL fP dM a9Z
noncomputable abbrev Kf9:=ij aRn none (Tryz.f109).results.toList
theorem a90:EOk Tryz.prog aRn:=bL (by exact trivial)
def a91(F:Nat):Cuts:={ F:=F,at_:=fun _=>none,join:=fun _=>none }
abbrev a92(F n:Nat){σ:Type}(e:σ→St)(K:Ex→St→Rz)(N:σ→Rz):=Qe aRn (a91 F) (bp Tryz.f109 n) e K N
def a7k:Int×Int→St:=fun (a,b)=>hS [(0,.int .u32 a),iS 1 b] [] 13 0
def auR(F:Nat):Int×Int→Rz:=fun (b,a)=>(cond (decide (0≤a)) (cond (decide (0≤(IntKind.i64.wrap ((32:Int)-a)))) (some ((.int .u32 (bK .or .u32 (Int.fdiv b (2^(min (Int.toNat a) 32))) (IntKind.u32.wrap (b*2^(min (Int.toNat (IntKind.i64.wrap ((32:Int)-a))) 32))))),[])) none) none)
theorem aII F:a92 F 1 a7k Kf9 (auR F):=fun _=>by kernel_rfl
def f109(F:Nat):Int×Int→Rz:=auR F
def aCN:eP:=fun X H=>match X,H with
 | [(.int .u32 a0),.int .i64 a1],[]=>some (((decide (0≤a1))&&(decide (a1≤32))),(.int .u32 (Sha.rotr a0 (Int.toNat a1))),[])
 | _,_=>none
theorem ba1(a0 a1:Int)(hp:(((decide (0≤a1))&&(decide (a1≤32))))=true)(h0:okV (.int .u32 a0))(h1:okV (.int .i64 a1)):∃ F,f109 F (a0,a1)=some ((.int .u32 (Sha.rotr a0 (Int.toNat a1))),[]):=by
 rw [cH,decide_eq_true_eq] at hp
 refine⟨0,?_⟩
 simp only [f109,auR]
 rw [bM (by omega) (by omega),aK (by omega),aK (by omega),show min a1.toNat 32=a1.toNat by omega,show min (32-a1).toNat 32=32-a1.toNat by omega]
 rfl
theorem ba2:Ck 109 aCN:=ck a90 Tryz.func109 (by
 intro X H r H' h hX hH
 unfold aCN at h;split at h <;> try contradiction
 ·obtain⟨hp,rfl,rfl⟩:=ik h
  obtain⟨F,hF⟩:=ba1 _ _ hp (hX _ hm0) (hX _ hm1)
  exact⟨_,abC (aII F) hF⟩)
def a93:List hI:=[(109,[none,none],aCN)]
def Ed:Env:=dL fP dM a93
noncomputable abbrev EG:=ij Ed none (Tryz.f108).results.toList
theorem a94:EOk Tryz.prog Ed:=bL (by exact⟨ba2,trivial⟩)
def a95(F:Nat):Cuts:={ F:=F,at_:=fun n=>match n with | 3010=>some P0 | 7014=>some aCJ | _=>none,join:=fun n=>match n with | 1039=>some agT | 2037=>some sp2 | 3012=>some P0 | 6022=>some sp6 | 7016=>some aCJ | 12003=>some sp6 | _=>none }
abbrev Ap(F n:Nat){σ:Type}(e:σ→St)(K:Ex→St→Rz)(N:σ→Rz):=Qe Ed (a95 F) (bp Tryz.f108 n) e K N
def aA8:Li→St:=fun a=>hS [(0,(z11 a))] [] 101 0
def an2:Li×Li→St:=fun (a,b)=>hS [(0,(z11 a)),pS 2 0 64] [z6 b] 101 0
def ah0:Ty0→St:=fun (a,b,c)=>hS [(0,(z11 a)),pS 2 0 64,pS 3 1 64] [z6 b,z6 c] 101 0
def ah1:Ty1→St:=fun (a,b,c,d)=>hS [(0,(z11 a)),pS 2 0 64,pS 3 1 64,iS 4 b] [z6 c,z6 d] 101 0
def aA9:Ty1→St:=ah1
def DY:Li×Li→St:=fun (a,b)=>hS [pS 2 0 64,pS 3 1 64] [z6 a,z6 b] 101 0
def ah2:ai9→St:=fun (a,b,c)=>hS [pS 2 0 64,pS 3 1 64,iS 5 a] [z6 b,z6 c] 101 0
def aBa:ai9→St:=ah2
def KA:Li×Li→St:=DY
def akQ(F:Nat)(a:Li×Li→Rz):Li→Rz:=fun b=>(a (b,(List.replicate 64 0)))
theorem aIJ F Rj1:Ap F 2 aA8 (kq Ed Rj1 agT EG) (akQ F (Rj1∘an2)):=fun _=>by kernel_rfl
def akR(F:Nat)(a:Ty0→Rz):Li×Li→Rz:=fun (b,c)=>(a (b,c,(List.replicate 64 0)))
theorem aIK F Rj2:Ap F 6 an2 (kq Ed Rj2 sp2 EG) (akR F (Rj2∘ah0)):=fun _=>by kernel_rfl
def akS(F:Nat)(a:Ty1→Rz)(e:Li×Li→Rz):Ty0→Rz:=fun (b,c,d)=>(a (b,(0:Int),c,d))
theorem aIL F Rj3 Rj4:Ap F 28 ah0 (kq Ed Rj3 P0 (kq Ed Rj4 sp6 EG)) (akS F (Rj3∘ah1) (Rj4∘DY)):=fun _=>by kernel_rfl
def agU(F:Nat)(e:Ty1→Rz)(f:Li×Li→Rz):Ty1→Rz:=fun (b,a,c,d)=>(cond (decide (a < (16:Int))) (cond ((decide (0≤(IntKind.i64.wrap ((4:Int)*a))))&&(decide ((IntKind.i64.wrap ((4:Int)*a)) < (↑b.length:Int)))) (cond ((decide (0≤(IntKind.i64.wrap ((IntKind.i64.wrap ((4:Int)*a))+(1:Int)))))&&(decide ((IntKind.i64.wrap ((IntKind.i64.wrap ((4:Int)*a))+(1:Int))) < (↑b.length:Int)))) (cond ((decide (0≤(IntKind.i64.wrap ((IntKind.i64.wrap ((4:Int)*a))+(2:Int)))))&&(decide ((IntKind.i64.wrap ((IntKind.i64.wrap ((4:Int)*a))+(2:Int))) < (↑b.length:Int)))) (cond ((decide (0≤(IntKind.i64.wrap ((IntKind.i64.wrap ((4:Int)*a))+(3:Int)))))&&(decide ((IntKind.i64.wrap ((IntKind.i64.wrap ((4:Int)*a))+(3:Int))) < (↑b.length:Int)))) (cond ((decide (0≤a))&&(decide (a < (64:Int)))) (e (b,(IntKind.i64.wrap (a+(1:Int))),c,(d.set (Int.toNat a) (bK .or .u32 (bK .or .u32 (bK .or .u32 (IntKind.u32.wrap ((IntKind.u32.wrap (b.getD (Int.toNat (IntKind.i64.wrap ((4:Int)*a))) 0))*2^24)) (IntKind.u32.wrap ((IntKind.u32.wrap (b.getD (Int.toNat (IntKind.i64.wrap ((IntKind.i64.wrap ((4:Int)*a))+(1:Int)))) 0))*2^16))) (IntKind.u32.wrap ((IntKind.u32.wrap (b.getD (Int.toNat (IntKind.i64.wrap ((IntKind.i64.wrap ((4:Int)*a))+(2:Int)))) 0))*2^8))) (IntKind.u32.wrap (b.getD (Int.toNat (IntKind.i64.wrap ((IntKind.i64.wrap ((4:Int)*a))+(3:Int)))) 0)))))) none) none) none) none) none) (f (c,d)))
theorem aIM F Rl1 Rj4:Ap F 116 aA9 (kq Ed Rl1 P0 (aV 0 (kq Ed Rj4 sp6 EG))) (agU F (Rl1∘aA9) (Rj4∘DY)):=fun _=>by kernel_rfl
def ajb:Ty1→Li×Int×Li×Li:=fun (a,b,c,d)=>(a,b,c,d)
def auS(F:Nat)(a:Li×Li→Rz):Ty1→Rz:=fun v=>eT (fun k=>agU F k a) F (ajb v)
theorem aIN F Rj4:Ap F 58 ah1 (aV 0 (kq Ed Rj4 sp6 EG)) (auS F (Rj4∘DY)):=lpC ajb (fun k=>agU F k (Rj4∘DY)) (fun Rl1=>aIM F Rl1 Rj4)
def auT(F:Nat)(a):=auS F a
theorem aIO F Rj4:Ap F 29 ah1 (kq Ed Rj4 sp6 EG) (auT F (Rj4∘DY)):=biC (aIN F Rj4)
def akT(F:Nat)(a):=akS F (auT F a) a
theorem aIP F Rj4:Ap F 14 ah0 (kq Ed Rj4 sp6 EG) (akT F (Rj4∘DY)):=sqC (fun k=>akS F k (Rj4∘DY)) (fun Rj3=>aIL F Rj3 Rj4) (aIO F Rj4)
def akU(F:Nat)(a:ai9→Rz)(d:Li×Li→Rz):Li×Li→Rz:=fun (b,c)=>(a ((16:Int),b,c))
theorem aIQ F Rj5 Rj6:Ap F 60 DY (kq Ed Rj5 aCJ (kq Ed Rj6 sp6 EG)) (akU F (Rj5∘ah2) (Rj6∘KA)):=fun _=>by kernel_rfl
def agV(F:Nat)(d:ai9→Rz)(e:Li×Li→Rz):ai9→Rz:=fun (a,c,b)=>(cond (decide (a < (64:Int))) (cond ((decide (0≤(IntKind.i64.wrap (a-(15:Int)))))&&(decide ((IntKind.i64.wrap (a-(15:Int))) < (64:Int)))) (cond ((decide (0≤(7:Int)))&&(decide ((7:Int)≤32))) (cond ((decide (0≤(IntKind.i64.wrap (a-(15:Int)))))&&(decide ((IntKind.i64.wrap (a-(15:Int))) < (64:Int)))) (cond ((decide (0≤(18:Int)))&&(decide ((18:Int)≤32))) (cond ((decide (0≤(IntKind.i64.wrap (a-(15:Int)))))&&(decide ((IntKind.i64.wrap (a-(15:Int))) < (64:Int)))) (cond ((decide (0≤(IntKind.i64.wrap (a-(2:Int)))))&&(decide ((IntKind.i64.wrap (a-(2:Int))) < (64:Int)))) (cond ((decide (0≤(17:Int)))&&(decide ((17:Int)≤32))) (cond ((decide (0≤(IntKind.i64.wrap (a-(2:Int)))))&&(decide ((IntKind.i64.wrap (a-(2:Int))) < (64:Int)))) (cond ((decide (0≤(19:Int)))&&(decide ((19:Int)≤32))) (cond ((decide (0≤(IntKind.i64.wrap (a-(2:Int)))))&&(decide ((IntKind.i64.wrap (a-(2:Int))) < (64:Int)))) (cond ((decide (0≤(IntKind.i64.wrap (a-(16:Int)))))&&(decide ((IntKind.i64.wrap (a-(16:Int))) < (64:Int)))) (cond ((decide (0≤(IntKind.i64.wrap (a-(7:Int)))))&&(decide ((IntKind.i64.wrap (a-(7:Int))) < (64:Int)))) (cond ((decide (0≤a))&&(decide (a < (64:Int)))) (d ((IntKind.i64.wrap (a+(1:Int))),c,(b.set (Int.toNat a) (IntKind.u32.wrap ((IntKind.u32.wrap ((IntKind.u32.wrap ((b.getD (Int.toNat (IntKind.i64.wrap (a-(16:Int)))) 0)+(bK .xor .u32 (bK .xor .u32 (Sha.rotr (b.getD (Int.toNat (IntKind.i64.wrap (a-(15:Int)))) 0) (Int.toNat (7:Int))) (Sha.rotr (b.getD (Int.toNat (IntKind.i64.wrap (a-(15:Int)))) 0) (Int.toNat (18:Int)))) (Int.fdiv (b.getD (Int.toNat (IntKind.i64.wrap (a-(15:Int)))) 0) (2^3)))))+(b.getD (Int.toNat (IntKind.i64.wrap (a-(7:Int)))) 0)))+(bK .xor .u32 (bK .xor .u32 (Sha.rotr (b.getD (Int.toNat (IntKind.i64.wrap (a-(2:Int)))) 0) (Int.toNat (17:Int))) (Sha.rotr (b.getD (Int.toNat (IntKind.i64.wrap (a-(2:Int)))) 0) (Int.toNat (19:Int)))) (Int.fdiv (b.getD (Int.toNat (IntKind.i64.wrap (a-(2:Int)))) 0) (2^10)))))))) none) none) none) none) none) none) none) none) none) none) none) none) none) (e (c,b)))
theorem aIR F Rl2 Rj6:Ap F 244 aBa (kq Ed Rl2 aCJ (aV 2 (kq Ed Rj6 sp6 EG))) (agV F (Rl2∘aBa) (Rj6∘KA)):=fun _=>by kernel_rfl
def agW:ai9→Int×Li×Li:=fun (a,b,c)=>(a,b,c)
def an3(F:Nat)(a:Li×Li→Rz):ai9→Rz:=fun v=>eT (fun k=>agV F k a) F (agW v)
theorem aCO F Rj6:Ap F 122 ah2 (aV 2 (kq Ed Rj6 sp6 EG)) (an3 F (Rj6∘KA)):=lpC agW (fun k=>agV F k (Rj6∘KA)) (fun Rl2=>aIR F Rl2 Rj6)
def an4(F:Nat)(a):=an3 F a
theorem aCP F Rj6:Ap F 61 ah2 (kq Ed Rj6 sp6 EG) (an4 F (Rj6∘KA)):=biC (aCO F Rj6)
def ah3(F:Nat)(a):=akU F (an4 F a) a
theorem aCQ F Rj6:Ap F 30 DY (kq Ed Rj6 sp6 EG) (ah3 F (Rj6∘KA)):=sqC (fun k=>akU F k (Rj6∘KA)) (fun Rj5=>aIQ F Rj5 Rj6) (aCP F Rj6)
def an5(F:Nat):Li×Li→Rz:=fun (b,a)=>(some ((.agg 64 (.rI .u32 a)),[]))
theorem aCR F:Ap F 31 KA EG (an5 F):=fun _=>by kernel_rfl
def an6(F:Nat):=ah3 F (an5 F)
theorem aCS F:Ap F 15 DY EG (an6 F):=sqC (ah3 F) (fun Rj6=>aCQ F Rj6) (aCR F)
def an7(F:Nat):=akT F (an6 F)
theorem aCT F:Ap F 7 ah0 EG (an7 F):=sqC (akT F) (fun Rj4=>aIP F Rj4) (aCS F)
def an8(F:Nat):=akR F (an7 F)
theorem aCU F:Ap F 3 an2 EG (an8 F):=sqC (akR F) (fun Rj2=>aIK F Rj2) (aCT F)
def an9(F:Nat):=akQ F (an8 F)
theorem aCV F:Ap F 1 aA8 EG (an9 F):=sqC (akQ F) (fun Rj1=>aIJ F Rj1) (aCU F)
def f108(F:Nat):Li→Rz:=an9 F
def aRo:eP:=fun X H=>match X,H with
 | [(.vs (.rI .u8 a0) 0 1)],[]=>some ((decide (64≤a0.length)),(.agg 64 (.rI .u32 (Sha.sched a0 64))),[])
 | _,_=>none
theorem aRp{l:List Int}(h:∀ x∈l,0≤x∧x≤255)(i:Nat):0≤l.getD i 0∧l.getD i 0≤255:=by
 by_cases hi:i < l.length
 ·rw [List.getD_eq_getElem?_getD,List.getElem?_eq_getElem hi];exact h _ (List.getElem_mem hi)
 ·rw [List.getD_eq_getElem?_getD,List.getElem?_eq_none (by omega)];simp
theorem auU(i a b:Nat)(h:b < 2^i)(h2:a*2^i+b < 4294967296):bK .or .u32 ((a*2^i:Nat):Int) (b:Int)=((a*2^i+b:Nat):Int):=by
 show IntKind.u32.wrap (((BitVec.ofInt 32 ((a*2^i:Nat):Int)) ||| (BitVec.ofInt 32 (b:Int))).toNat:Int)=_
 rw [BitVec.toNat_or,BitVec.toNat_ofInt,BitVec.toNat_ofInt]
 generalize hx:a*2^i=x at *
 have e1:((x:Int)%((2^32:Nat):Int)).toNat=x:=by omega
 have e2:((b:Int)%((2^32:Nat):Int)).toNat=b:=by omega
 rw [e1,e2,← hx,← Nat.shiftLeft_eq,← Nat.shiftLeft_add_eq_or_of_lt h,Nat.shiftLeft_eq,hx,Wm (by omega) (by omega)]
theorem or4(a b c d:Int)(ha:0≤a∧a≤255)(hb:0≤b∧b≤255)(hc:0≤c∧c≤255)(hd:0≤d∧d≤255):
  bK .or .u32 (bK .or .u32 (bK .or .u32 (IntKind.u32.wrap ((IntKind.u32.wrap a)*2^24)) (IntKind.u32.wrap ((IntKind.u32.wrap b)*2^16))) (IntKind.u32.wrap ((IntKind.u32.wrap c)*2^8))) (IntKind.u32.wrap d)=Sha.word a b c d:=by
 obtain⟨a,rfl⟩:=Int.eq_ofNat_of_zero_le ha.1
 obtain⟨b,rfl⟩:=Int.eq_ofNat_of_zero_le hb.1
 obtain⟨c,rfl⟩:=Int.eq_ofNat_of_zero_le hc.1
 obtain⟨d,rfl⟩:=Int.eq_ofNat_of_zero_le hd.1
 rw [Wm (x:=(a:Int)) (by omega) (by omega),Wm (x:=(b:Int)) (by omega) (by omega),Wm (x:=(c:Int)) (by omega) (by omega),Wm (x:=(d:Int)) (by omega) (by omega),
  Wm (x:=(a:Int)*2^24) (by omega) (by omega),Wm (x:=(b:Int)*2^16) (by omega) (by omega),Wm (x:=(c:Int)*2^8) (by omega) (by omega)]
 have e1:bK .or .u32 ((a:Int)*2^24) ((b:Int)*2^16)=(((a*256+b)*2^16:Nat):Int):=by
  have:=auU 24 a (b*2^16) (by omega) (by omega)
  rw [show((a:Int)*2^24)=((a*2^24:Nat):Int) by omega,show((b:Int)*2^16)=((b*2^16:Nat):Int) by omega,this];omega
 have e2:bK .or .u32 (((a*256+b)*2^16:Nat):Int) ((c:Int)*2^8)=((((a*256+b)*256+c)*2^8:Nat):Int):=by
  have:=auU 16 (a*256+b) (c*2^8) (by omega) (by omega)
  rw [show((c:Int)*2^8)=((c*2^8:Nat):Int) by omega,this];omega
 rw [e1,e2,auU 8 _ d (by omega) (by omega)]
 unfold Sha.word;omega
theorem ba3(a0:Li)(hp:((decide (64≤a0.length)))=true)(h0:okV (.vs (.rI .u8 a0) 0 1)):∃ F,f108 F a0=some ((.agg 64 (.rI .u32 (Sha.sched a0 64))),[]):=by
 have hl:64≤a0.length:=of_decide_eq_true hp
 have hl2:=h0.2
 have hb:∀ i,0≤a0.getD i 0∧a0.getD i 0≤255:=aRp (fun x hx=>aay (h0.1 x hx))
 refine⟨65,?_⟩
 simp only [f108,an9,akQ,an8,akR,an7,akT,akS,auT,auS,ajb]
 refine iR (fun i=>(a0,(i:Int),List.replicate 64 0,Sha.sched a0 i++List.replicate (64-i) 0)) 16 (by rfl) (fun i hi k=>?_) (fun k=>?_) 65 (by omega)
 ·simp only [agU,cH]
  rw [bM (x:=4*(i:Int)) (by omega) (by omega),bM (x:=4*(i:Int)+1) (by omega) (by omega),bM (x:=4*(i:Int)+2) (by omega) (by omega),bM (x:=4*(i:Int)+3) (by omega) (by omega),bM (x:=(i:Int)+1) (by omega) (by omega),
   aK (by omega),aK (by omega),aK (by omega),aK (by omega),aK (by omega),aK (by omega)]
  rw [show(4*(i:Int)).toNat=4*i by omega,show(4*(i:Int)+1).toNat=4*i+1 by omega,show(4*(i:Int)+2).toNat=4*i+2 by omega,show(4*(i:Int)+3).toNat=4*i+3 by omega,Int.toNat_natCast,
   or4 _ _ _ _ (hb _) (hb _) (hb _) (hb _),WX a0 i _ (by omega) (by simp only [Sha.sched,if_pos hi])]
  rfl
 ·simp only [agU]
  rw [ba (by omega)]
  simp only [an6,ah3,akU,an4,an3,agW]
  refine iR (fun i=>(((i+16:Nat):Int),List.replicate 64 0,Sha.sched a0 (i+16)++List.replicate (64-(i+16)) 0)) 48 (by rfl) (fun i hi k'=>?_) (fun k'=>?_) 65 (by omega)
  ·simp only [agV,cH]
   generalize hj:i+16=j
   have h16:¬ j < 16:=by omega
   rw [bM (x:=(j:Int)-15) (by omega) (by omega),bM (x:=(j:Int)-2) (by omega) (by omega),bM (x:=(j:Int)-16) (by omega) (by omega),bM (x:=(j:Int)-7) (by omega) (by omega),bM (x:=(j:Int)+1) (by omega) (by omega)]
   repeat rw [aK (by omega)]
   rw [show((j:Int)-15).toNat=j-15 by omega,show((j:Int)-2).toNat=j-2 by omega,show((j:Int)-16).toNat=j-16 by omega,show((j:Int)-7).toNat=j-7 by omega,Int.toNat_natCast]
   rw [D8 a0 j (j-15) _ (by omega),D8 a0 j (j-2) _ (by omega),D8 a0 j (j-16) _ (by omega),D8 a0 j (j-7) _ (by omega)]
   rw [WX a0 j _ (by omega) (by simp only [Sha.sched,if_neg h16];rfl),show i+1+16=j+1 by omega]
   rfl
  ·simp only [agV]
   rw [ba (by omega)]
   simp only [an5]
   rw [Nat.sub_self,List.replicate_zero,List.append_nil]
theorem c108:Ck 108 aRo:=ck a94 Tryz.func108 (by
 intro X H r H' h hX hH
 unfold aRo at h;split at h <;> try contradiction
 ·obtain⟨hp,rfl,rfl⟩:=ik h
  obtain⟨F,hF⟩:=ba3 _ hp (hX _ hm0)
  exact⟨_,abC (aCV F) hF⟩)
def a96:List hI:=[]
def Eo:Env:=dL fP dM a96
noncomputable abbrev Ee:=ij Eo none (Tryz.f107).results.toList
theorem a97:EOk Tryz.prog Eo:=bL (by exact trivial)
def a98(F:Nat):Cuts:={ F:=F,at_:=fun n=>match n with | 3008=>some xe | 7010=>some aCK | _=>none,join:=fun n=>match n with | 1035=>some [(0,.plain)] | 2033=>some xe | 3031=>some xe | 5020=>some xe | 6018=>some [(3,.plain),(4,.plain)] | 7012=>some aCK | 10003=>some [(3,.plain)] | _=>none }
abbrev Ac(F n:Nat){σ:Type}(e:σ→St)(K:Ex→St→Rz)(N:σ→Rz):=Qe Eo (a98 F) (bp Tryz.f107 n) e K N
def aBb:Li→St:=fun a=>hS [(0,(z11 a))] [] 37 0
def aoa:Li→St:=fun a=>hS [(0,(z11 a))] [] 37 0
def V6:Li×Li→St:=fun (b,a)=>hS [(0,(z11 b)),(3,.own 0 0 1)] [z10 a.length a] 37 0
def ah4:Li×Li→St:=V6
def aBc:Li×Li→St:=V6
def Wa:Li×Li→St:=V6
def ah5:Int×Li→St:=fun (b,a)=>hS [(3,.own 0 0 1),(4,.int .u64 b)] [z10 a.length a] 37 0
def ah6:Int×Int×Li→St:=fun (b,c,a)=>hS [(3,.own 0 0 1),(4,.int .u64 b),iS 5 c] [z10 a.length a] 37 0
def aBd:Int×Int×Li→St:=ah6
def KB:Li→St:=fun a=>hS [(3,.own 0 0 1)] [z10 a.length a] 37 0
def akV(F:Nat)(a:Li→Rz):Li→Rz:=fun b=>(a b)
theorem aIS F Rj1:Ac F 2 aBb (kq Eo Rj1 [(0,.plain)] Ee) (akV F (Rj1∘aoa)):=fun _=>by kernel_rfl
def akW(F:Nat)(b:Li×Li→Rz):Li→Rz:=fun a=>(cond (decide ((0+a.length) < 1073741824)) (b (a,([]++a))) none)
theorem aIT F Rj2:Ac F 6 aoa (kq Eo Rj2 xe Ee) (akW F (Rj2∘V6)):=fun _=>by kernel_rfl
def akX(F:Nat)(b:Li×Li→Rz):Li×Li→Rz:=fun (c,a)=>(cond (decide ((a.length+1) < 1073741824)) (b (c,(a++[(128:Int)]))) none)
theorem aIU F Rj3:Ac F 14 V6 (kq Eo Rj3 xe Ee) (akX F (Rj3∘ah4)):=fun _=>by kernel_rfl
def agX(F:Nat)(c d:Li×Li→Rz):Li×Li→Rz:=fun (b,a)=>(cond ((Int.tmod (↑a.length:Int) (64:Int)) != (56:Int)) (cond (decide ((a.length+1) < 1073741824)) (c (b,(a++[(0:Int)]))) none) (d (b,a)))
theorem aIV F Rl1 Rj4:Ac F 120 aBc (kq Eo Rl1 xe (aV 0 (kq Eo Rj4 xe Ee))) (agX F (Rl1∘aBc) (Rj4∘Wa)):=fun _=>by kernel_rfl
def ajc:Li×Li→Li×Li:=fun (a,b)=>(a,b)
def auV(F:Nat)(a:Li×Li→Rz):Li×Li→Rz:=fun v=>eT (fun k=>agX F k a) F (ajc v)
theorem aIW F Rj4:Ac F 60 ah4 (aV 0 (kq Eo Rj4 xe Ee)) (auV F (Rj4∘Wa)):=lpC ajc (fun k=>agX F k (Rj4∘Wa)) (fun Rl1=>aIV F Rl1 Rj4)
def akY(F:Nat)(a):=auV F a
theorem aIX F Rj4:Ac F 30 ah4 (kq Eo Rj4 xe Ee) (akY F (Rj4∘Wa)):=biC (aIW F Rj4)
def akZ(F:Nat)(a:Int×Li→Rz):Li×Li→Rz:=fun (b,c)=>(a ((IntKind.u64.wrap ((8:Int)*(IntKind.u64.wrap (↑b.length:Int)))),c))
theorem aIY F Rj5:Ac F 62 Wa (kq Eo Rj5 [(3,.plain),(4,.plain)] Ee) (akZ F (Rj5∘ah5)):=fun _=>by kernel_rfl
def ak0(F:Nat)(a:Int×Int×Li→Rz)(d:Li→Rz):Int×Li→Rz:=fun (b,c)=>(a (b,(0:Int),c))
theorem aIZ F Rj6 Rj7:Ac F 252 ah5 (kq Eo Rj6 aCK (kq Eo Rj7 [(3,.plain)] Ee)) (ak0 F (Rj6∘ah6) (Rj7∘KB)):=fun _=>by kernel_rfl
def agY(F:Nat)(d:Int×Int×Li→Rz)(e:Li→Rz):Int×Int×Li→Rz:=fun (c,a,b)=>(cond (decide (a < (8:Int))) (cond (decide (0≤(IntKind.i64.wrap ((56:Int)-(IntKind.i64.wrap ((8:Int)*a)))))) (cond (decide ((b.length+1) < 1073741824)) (d (c,(IntKind.i64.wrap (a+(1:Int))),(b++[(IntKind.u8.wrap (Int.fdiv c (2^(min (Int.toNat (IntKind.i64.wrap ((56:Int)-(IntKind.i64.wrap ((8:Int)*a))))) 64))))]))) none) none) (e b))
theorem aI0 F Rl2 Rj7:Ac F 1012 aBd (kq Eo Rl2 aCK (aV 2 (kq Eo Rj7 [(3,.plain)] Ee))) (agY F (Rl2∘aBd) (Rj7∘KB)):=fun _=>by kernel_rfl
def agZ:Int×Int×Li→Int×Int×Li:=fun (a,b,c)=>(a,b,c)
def aob(F:Nat)(a:Li→Rz):Int×Int×Li→Rz:=fun v=>eT (fun k=>agY F k a) F (agZ v)
theorem aCW F Rj7:Ac F 506 ah6 (aV 2 (kq Eo Rj7 [(3,.plain)] Ee)) (aob F (Rj7∘KB)):=lpC agZ (fun k=>agY F k (Rj7∘KB)) (fun Rl2=>aI0 F Rl2 Rj7)
def aoc(F:Nat)(a):=aob F a
theorem aCX F Rj7:Ac F 253 ah6 (kq Eo Rj7 [(3,.plain)] Ee) (aoc F (Rj7∘KB)):=biC (aCW F Rj7)
def ah7(F:Nat)(a):=ak0 F (aoc F a) a
theorem aCY F Rj7:Ac F 126 ah5 (kq Eo Rj7 [(3,.plain)] Ee) (ah7 F (Rj7∘KB)):=sqC (fun k=>ak0 F k (Rj7∘KB)) (fun Rj6=>aIZ F Rj6 Rj7) (aCX F Rj7)
def aod(F:Nat):Li→Rz:=fun a=>(some ((.own 0 0 1),[(.cells a.length (.rI .u8 a) true)]))
theorem aCZ F:Ac F 127 KB Ee (aod F):=fun _=>by kernel_rfl
def aol(F:Nat):=ah7 F (aod F)
theorem aC0 F:Ac F 63 ah5 Ee (aol F):=sqC (ah7 F) (fun Rj7=>aCY F Rj7) (aCZ F)
def aom(F:Nat):=akZ F (aol F)
theorem aC1 F:Ac F 31 Wa Ee (aom F):=sqC (akZ F) (fun Rj5=>aIY F Rj5) (aC0 F)
def aon(F:Nat):=akY F (aom F)
theorem aC2 F:Ac F 15 ah4 Ee (aon F):=sqC (akY F) (fun Rj4=>aIX F Rj4) (aC1 F)
def aoo(F:Nat):=akX F (aon F)
theorem aC3 F:Ac F 7 V6 Ee (aoo F):=sqC (akX F) (fun Rj3=>aIU F Rj3) (aC2 F)
def aoq(F:Nat):=akW F (aoo F)
theorem aC4 F:Ac F 3 aoa Ee (aoq F):=sqC (akW F) (fun Rj2=>aIT F Rj2) (aC3 F)
def aor(F:Nat):=akV F (aoq F)
theorem aC5 F:Ac F 1 aBb Ee (aor F):=sqC (akV F) (fun Rj1=>aIS F Rj1) (aC4 F)
def f107(F:Nat):Li→Rz:=aor F
def aRu:eP:=fun X H=>match X,H with
 | [(.vs (.rI .u8 a0) 0 1)],[]=>some ((decide (a0.length < 1073741000)),.own 0 0 1,[(.cells (Sha.padded a0).length (.rI .u8 (Sha.padded a0)) true)])
 | _,_=>none
theorem ba4(a0:Li)(hp:((decide (a0.length < 1073741000)))=true)(h0:okV (.vs (.rI .u8 a0) 0 1)):∃ F,f107 F a0=some ((.own 0 0 1),[(.cells (Sha.padded a0).length (.rI .u8 (Sha.padded a0)) true)]):=by
 have hl:a0.length < 1073741000:=of_decide_eq_true hp
 refine⟨65,?_⟩
 simp only [f107,aor,akV,aoq,akW,aoo,akX,aon,akY,auV,ajc,List.nil_append]
 rw [aK (by omega),aK (by omega)]
 generalize hN:a0.length=N at *
 refine iR (fun i=>(a0,a0++128 :: List.replicate i 0)) ((55-(N:Int))%64).toNat (by rfl) (fun i hi k=>?_) (fun k=>?_) 65 (by omega)
 ·simp only [agX,List.length_append,List.length_cons,List.length_replicate,JX,hN]
  rw [JY (by omega),aK (by omega),aK (by omega)]
  rw [show List.replicate (i+1) (0:Int)=List.replicate i 0++[0] from List.replicate_succ',List.append_assoc];rfl
 ·simp only [agX,List.length_append,List.length_cons,List.length_replicate,JX,hN]
  rw [JY (by omega),ba (by omega)]
  generalize hP:a0++(128:Int) :: List.replicate ((55-(N:Int))%64).toNat 0=P
  have hPl:P.length≤N+64:=by rw [← hP,← hN];simp;omega
  simp only [aom,akZ,aol,ah7,ak0,aoc,aob,agZ,hN]
  rw [aBY (x:=(N:Int)) (by omega) (by omega)]
  generalize hM:IntKind.u64.wrap (8*(N:Int))=M
  refine iR (fun j=>(M,(j:Int),P++(List.range j).map fun i=>IntKind.u8.wrap (M.fdiv (2^(56-8*i))))) 8 (by simp) (fun j hj k'=>?_) (fun k'=>?_) 65 (by omega)
  ·simp only [agY,List.length_append,List.length_map,List.length_range]
   rw [bM (x:=8*(j:Int)) (by omega) (by omega),bM (x:=56-8*(j:Int)) (by omega) (by omega),bM (x:=(j:Int)+1) (by omega) (by omega),aK (by omega),aK (by omega),aK (by omega)]
   rw [show min (56-8*(j:Int)).toNat 64=56-8*j by omega,List.range_succ,List.map_append,List.append_assoc]
   rfl
  ·simp only [agY]
   rw [ba (by omega)]
   simp only [aod]
   have hpad:P++(List.range 8).map (fun i=>IntKind.u8.wrap (M.fdiv (2^(56-8*i))))=Sha.padded a0:=by
    rw [← hP,← hM,List.append_assoc];unfold Sha.padded;rw [hN];rfl
   rw [hpad]
theorem c107:Ck 107 aRu:=ck a97 Tryz.func107 (by
 intro X H r H' h hX hH
 unfold aRu at h;split at h <;> try contradiction
 ·obtain⟨hp,rfl,rfl⟩:=ik h
  obtain⟨F,hF⟩:=ba4 _ hp (hX _ hm0)
  exact⟨_,abC (aC5 F) hF⟩)
def ba5:List hI:=[(107,[some 5],aRu),(108,[some 5],aRo),(109,[none,none],aCN)]
def V99:Env:=dL fP DW ba5
noncomputable abbrev uW:=ij V99 none (Tryz.f99).results.toList
theorem ba6:EOk Tryz.prog V99:=bL (by exact⟨c107.more uP,c108.more uP,ba2.more uP,trivial⟩)
def ba7(F:Nat):Cuts:={ F:=F,at_:=fun n=>match n with | 4047=>some vc | 9028=>some aCL | 24010=>some aCM | _=>none,join:=fun n=>match n with | 1076=>some agT | 2074=>some sp2 | 3072=>some a8j | 4049=>some vc | 5001=>some vc | 6041=>some vc | 7036=>some a8k | 8034=>some a8l | 9030=>some aCL | 21001=>some an0 | 22020=>some sp6 | 23018=>some a8m | 24012=>some aCM | 27003=>some an1 | _=>none }
abbrev uX(F n:Nat){σ:Type}(e:σ→St)(K:Ex→St→Rz)(N:σ→Rz):=Qe V99 (ba7 F) (bp Tryz.f99 n) e K N
def aI1:Li→St:=fun a=>hS [(0,(z11 a))] [] 164 0
def auW:Li×Li→St:=fun (a,b)=>hS [(0,(z11 a)),pS 2 0 32] [z8 b] 164 0
def auX:Ty0→St:=fun (a,b,c)=>hS [(0,(z11 a)),pS 2 0 32,pS 3 1 8] [z8 b,z9 c] 164 0
def ak1:Ty0→St:=fun (b,c,a)=>hS [pS 2 0 32,pS 3 1 8,(4,.own 2 0 1)] [z8 b,z9 c,z10 a.length a] 164 0
def abD:zX→St:=fun (b,c,d,a)=>hS [pS 2 0 32,pS 3 1 8,(4,.own 2 0 1),iS 5 b] [z8 c,z9 d,z10 a.length a] 164 0
def uR:zX→St:=abD
def ag0:zX→St:=abD
def auY:Ty9→St:=fun (b,c,d,a,e)=>hS [pS 2 0 32,pS 3 1 8,(4,.own 2 0 1),iS 5 b,pS 6 3 64] [z8 c,z9 d,z10 a.length a,z6 e] 164 0
def ak2:aRm→St:=fun (b,c,d,e,f,g,h,i,j,k,l,a,m)=>hS [pS 2 0 32,pS 3 1 8,(4,.own 2 0 1),iS 5 b,pS 6 3 64,(7,.int .u32 c),(8,.int .u32 d),(9,.int .u32 e),(10,.int .u32 f),(11,.int .u32 g),(12,.int .u32 h),(13,.int .u32 i),(14,.int .u32 j)] [z8 k,z9 l,z10 a.length a,z6 m] 164 0
def ak3:aja→St:=fun (b,c,d,e,f,g,h,i,j,k,l,m,a,n)=>hS [pS 2 0 32,pS 3 1 8,(4,.own 2 0 1),iS 5 b,pS 6 3 64,(7,.int .u32 c),(8,.int .u32 d),(9,.int .u32 e),(10,.int .u32 f),(11,.int .u32 g),(12,.int .u32 h),(13,.int .u32 i),(14,.int .u32 j),iS 15 k] [z8 l,z9 m,z10 a.length a,z6 n] 164 0
def aI2:aja→St:=ak3
def Vm:auQ→St:=fun (b,c,d,e,f,g,h,i,j,k,l,a)=>hS [pS 2 0 32,pS 3 1 8,(4,.own 2 0 1),iS 5 b,(7,.int .u32 c),(8,.int .u32 d),(9,.int .u32 e),(10,.int .u32 f),(11,.int .u32 g),(12,.int .u32 h),(13,.int .u32 i),(14,.int .u32 j)] [z8 k,z9 l,z10 a.length a] 164 0
def xc:zX→St:=abD
def oa:Li×Li→St:=fun (a,b)=>hS [pS 2 0 32,pS 3 1 8] [z8 a,z9 b] 164 0
def ah8:Ty0→St:=fun (a,b,c)=>hS [pS 2 0 32,pS 3 1 8,pS 18 2 32] [z8 a,z9 b,z8 c] 164 0
def aib:zX→St:=fun (a,b,c,d)=>hS [pS 2 0 32,pS 3 1 8,pS 18 2 32,iS 19 a] [z8 b,z9 c,z8 d] 164 0
def aI3:zX→St:=aib
def KC:Li×Li→St:=fun (a,b)=>hS [pS 2 0 32,pS 18 1 32] [z8 a,z8 b] 164 0
def ap8(F:Nat)(a:Li×Li→Rz):Li→Rz:=fun b=>(a (b,(List.replicate 32 0)))
theorem aRv F Rj1:uX F 2 aI1 (kq V99 Rj1 agT uW) (ap8 F (Rj1∘auW)):=fun _=>by kernel_rfl
def ap9(F:Nat)(a:Ty0→Rz):Li×Li→Rz:=fun (b,c)=>(a (b,c,[(1779033703:Int),(3144134277:Int),(1013904242:Int),(2773480762:Int),(1359893119:Int),(2600822924:Int),(528734635:Int),(1541459225:Int)]))
theorem aRw F Rj2:uX F 6 auW (kq V99 Rj2 sp2 uW) (ap9 F (Rj2∘auX)):=fun _=>by kernel_rfl
def aqa(F:Nat)(b:Ty0→Rz):Ty0→Rz:=fun (a,c,d)=>(cond (decide (a.length < 1073741000)) (b (c,d,(Sha.padded a))) none)
theorem aRx F Rj3:uX F 14 auX (kq V99 Rj3 a8j uW) (aqa F (Rj3∘ak1)):=fun _=>by kernel_rfl
def aqb(F:Nat)(a:zX→Rz)(e:Li×Li→Rz):Ty0→Rz:=fun (b,c,d)=>(a ((0:Int),b,c,d))
theorem aRy F Rj4 Rj11:uX F 60 ak1 (kq V99 Rj4 vc (kq V99 Rj11 sp6 uW)) (aqb F (Rj4∘abD) (Rj11∘oa)):=fun _=>by kernel_rfl
def ak4(F:Nat)(e g:zX→Rz)(f:Li×Li→Rz):zX→Rz:=fun (a,b,c,d)=>(cond (decide (a < (↑d.length:Int))) (e (a,b,c,d)) (f (b,c)))
theorem aRz F Rj5 Rl1 Rj11:uX F 488 uR (kq V99 Rj5 vc (kq V99 Rl1 vc (aV 0 (kq V99 Rj11 sp6 uW)))) (ak4 F (Rj5∘ag0) (Rl1∘uR) (Rj11∘oa)):=fun _=>by kernel_rfl
def aqc(F:Nat)(c:Ty9→Rz)(f g:zX→Rz)(h:Li×Li→Rz):zX→Rz:=fun (a,d,e,b)=>(cond (((decide (0≤a))&&(decide (a≤(IntKind.i64.wrap (a+(64:Int))))))&&(decide ((IntKind.i64.wrap (a+(64:Int)))≤(↑b.length:Int)))) (cond (decide (64≤((b.drop (Int.toNat a)).take ((Int.toNat (IntKind.i64.wrap (a+(64:Int))))-(Int.toNat a))).length)) (c (a,d,e,b,(Sha.sched ((b.drop (Int.toNat a)).take ((Int.toNat (IntKind.i64.wrap (a+(64:Int))))-(Int.toNat a))) 64))) none) none)
theorem aRA F Rj6 Rj10 Rl1 Rj11:uX F 3912 ag0 (kq V99 Rj6 a8k (aV 1 (kq V99 Rj10 vc (kq V99 Rl1 vc (aV 0 (kq V99 Rj11 sp6 uW)))))) (aqc F (Rj6∘auY) (Rj10∘xc) (Rl1∘uR) (Rj11∘oa)):=fun _=>by kernel_rfl
def aqd(F:Nat)(b:aRm→Rz)(g h:zX→Rz)(i:Li×Li→Rz):Ty9→Rz:=fun (c,d,a,e,f)=>(b (c,(a.getD 0 0),(a.getD 1 0),(a.getD 2 0),(a.getD 3 0),(a.getD 4 0),(a.getD 5 0),(a.getD 6 0),(a.getD 7 0),d,a,e,f))
theorem aRB F Rj7 Rj10 Rl1 Rj11:uX F 7826 auY (kq V99 Rj7 a8l (aV 1 (kq V99 Rj10 vc (kq V99 Rl1 vc (aV 0 (kq V99 Rj11 sp6 uW)))))) (aqd F (Rj7∘ak2) (Rj10∘xc) (Rl1∘uR) (Rj11∘oa)):=fun _=>by kernel_rfl
def aqe(F:Nat)(a:aja→Rz)(o:auQ→Rz)(p q:zX→Rz)(r:Li×Li→Rz):aRm→Rz:=fun (b,c,d,e,f,g,h,i,j,k,l,m,n)=>(a (b,c,d,e,f,g,h,i,j,(0:Int),k,l,m,n))
theorem aRC F Rj8 Rj9 Rj10 Rl1 Rj11:uX F 31308 ak2 (kq V99 Rj8 aCL (kq V99 Rj9 an0 (aV 1 (kq V99 Rj10 vc (kq V99 Rl1 vc (aV 0 (kq V99 Rj11 sp6 uW))))))) (aqe F (Rj8∘ak3) (Rj9∘Vm) (Rj10∘xc) (Rl1∘uR) (Rj11∘oa)):=fun _=>by kernel_rfl
def ak5(F:Nat)(o:aja→Rz)(p:auQ→Rz)(q r:zX→Rz)(s:Li×Li→Rz):aja→Rz:=fun (j,c,d,e,k,a,f,g,h,b,l,m,n,i)=>(cond (decide (b < (64:Int))) (cond ((decide (0≤(6:Int)))&&(decide ((6:Int)≤32))) (cond ((decide (0≤(11:Int)))&&(decide ((11:Int)≤32))) (cond ((decide (0≤(25:Int)))&&(decide ((25:Int)≤32))) (cond ((decide (0≤b))&&(decide (b < (64:Int)))) (cond ((decide (0≤b))&&(decide (b < (64:Int)))) (cond ((decide (0≤(2:Int)))&&(decide ((2:Int)≤32))) (cond ((decide (0≤(13:Int)))&&(decide ((13:Int)≤32))) (cond ((decide (0≤(22:Int)))&&(decide ((22:Int)≤32))) (o (j,(IntKind.u32.wrap ((IntKind.u32.wrap ((IntKind.u32.wrap ((IntKind.u32.wrap ((IntKind.u32.wrap (h+(bK .xor .u32 (bK .xor .u32 (Sha.rotr a (Int.toNat (6:Int))) (Sha.rotr a (Int.toNat (11:Int)))) (Sha.rotr a (Int.toNat (25:Int))))))+(bK .xor .u32 (bK .and .u32 a f) (bK .and .u32 (bK .xor .u32 a (4294967295:Int)) g))))+(Sha.K.getD (Int.toNat b) 0)))+(i.getD (Int.toNat b) 0)))+(IntKind.u32.wrap ((bK .xor .u32 (bK .xor .u32 (Sha.rotr c (Int.toNat (2:Int))) (Sha.rotr c (Int.toNat (13:Int)))) (Sha.rotr c (Int.toNat (22:Int))))+(bK .xor .u32 (bK .xor .u32 (bK .and .u32 c d) (bK .and .u32 c e)) (bK .and .u32 d e)))))),c,d,e,(IntKind.u32.wrap (k+(IntKind.u32.wrap ((IntKind.u32.wrap ((IntKind.u32.wrap ((IntKind.u32.wrap (h+(bK .xor .u32 (bK .xor .u32 (Sha.rotr a (Int.toNat (6:Int))) (Sha.rotr a (Int.toNat (11:Int)))) (Sha.rotr a (Int.toNat (25:Int))))))+(bK .xor .u32 (bK .and .u32 a f) (bK .and .u32 (bK .xor .u32 a (4294967295:Int)) g))))+(Sha.K.getD (Int.toNat b) 0)))+(i.getD (Int.toNat b) 0))))),a,f,g,(IntKind.i64.wrap (b+(1:Int))),l,m,n,i)) none) none) none) none) none) none) none) none) (p (j,c,d,e,k,a,f,g,h,l,m,n)))
theorem aRD F Rl2 Rj9 Rj10 Rl1 Rj11:uX F 125236 aI2 (kq V99 Rl2 aCL (aV 2 (kq V99 Rj9 an0 (aV 1 (kq V99 Rj10 vc (kq V99 Rl1 vc (aV 0 (kq V99 Rj11 sp6 uW)))))))) (ak5 F (Rl2∘aI2) (Rj9∘Vm) (Rj10∘xc) (Rl1∘uR) (Rj11∘oa)):=fun _=>by kernel_rfl
def ajd:aja→Int×Int×Int×Int×Int×Int×Int×Int×Int×Int×Li×Li×Li×Li:=fun (a,b,c,d,e,f,g,h,i,j,k,l,m,n)=>(a,b,c,d,e,f,g,h,i,j,k,l,m,n)
def auZ(F:Nat)(a:auQ→Rz)(b c:zX→Rz)(d:Li×Li→Rz):aja→Rz:=fun v=>eT (fun k=>ak5 F k a b c d) F (ajd v)
theorem aI4 F Rj9 Rj10 Rl1 Rj11:uX F 62618 ak3 (aV 2 (kq V99 Rj9 an0 (aV 1 (kq V99 Rj10 vc (kq V99 Rl1 vc (aV 0 (kq V99 Rj11 sp6 uW))))))) (auZ F (Rj9∘Vm) (Rj10∘xc) (Rl1∘uR) (Rj11∘oa)):=lpC ajd (fun k=>ak5 F k (Rj9∘Vm) (Rj10∘xc) (Rl1∘uR) (Rj11∘oa)) (fun Rl2=>aRD F Rl2 Rj9 Rj10 Rl1 Rj11)
def au0(F:Nat)(a)(b c)(d):=auZ F a b c d
theorem aI5 F Rj9 Rj10 Rl1 Rj11:uX F 31309 ak3 (kq V99 Rj9 an0 (aV 1 (kq V99 Rj10 vc (kq V99 Rl1 vc (aV 0 (kq V99 Rj11 sp6 uW)))))) (au0 F (Rj9∘Vm) (Rj10∘xc) (Rl1∘uR) (Rj11∘oa)):=biC (aI4 F Rj9 Rj10 Rl1 Rj11)
def ak6(F:Nat)(a)(b c)(d):=aqe F (au0 F a b c d) a b c d
theorem aI6 F Rj9 Rj10 Rl1 Rj11:uX F 15654 ak2 (kq V99 Rj9 an0 (aV 1 (kq V99 Rj10 vc (kq V99 Rl1 vc (aV 0 (kq V99 Rj11 sp6 uW)))))) (ak6 F (Rj9∘Vm) (Rj10∘xc) (Rl1∘uR) (Rj11∘oa)):=sqC (fun k=>aqe F k (Rj9∘Vm) (Rj10∘xc) (Rl1∘uR) (Rj11∘oa)) (fun Rj8=>aRC F Rj8 Rj9 Rj10 Rl1 Rj11) (aI5 F Rj9 Rj10 Rl1 Rj11)
def au1(F:Nat)(b n:zX→Rz)(o:Li×Li→Rz):auQ→Rz:=fun (c,d,e,f,g,h,i,j,k,l,a,m)=>(b (c,l,[(IntKind.u32.wrap ((a.getD 0 0)+d)),(IntKind.u32.wrap ((a.getD 1 0)+e)),(IntKind.u32.wrap ((a.getD 2 0)+f)),(IntKind.u32.wrap ((a.getD 3 0)+g)),(IntKind.u32.wrap ((a.getD 4 0)+h)),(IntKind.u32.wrap ((a.getD 5 0)+i)),(IntKind.u32.wrap ((a.getD 6 0)+j)),(IntKind.u32.wrap ((a.getD 7 0)+k))],m))
theorem aI7 F Rj10 Rl1 Rj11:uX F 15655 Vm (aV 1 (kq V99 Rj10 vc (kq V99 Rl1 vc (aV 0 (kq V99 Rj11 sp6 uW))))) (au1 F (Rj10∘xc) (Rl1∘uR) (Rj11∘oa)):=fun _=>by kernel_rfl
def au2(F:Nat)(a b)(c):=ak6 F (au1 F a b c) a b c
theorem aI8 F Rj10 Rl1 Rj11:uX F 7827 ak2 (aV 1 (kq V99 Rj10 vc (kq V99 Rl1 vc (aV 0 (kq V99 Rj11 sp6 uW))))) (au2 F (Rj10∘xc) (Rl1∘uR) (Rj11∘oa)):=sqC (fun k=>ak6 F k (Rj10∘xc) (Rl1∘uR) (Rj11∘oa)) (fun Rj9=>aI6 F Rj9 Rj10 Rl1 Rj11) (aI7 F Rj10 Rl1 Rj11)
def au3(F:Nat)(a b)(c):=aqd F (au2 F a b c) a b c
theorem aI9 F Rj10 Rl1 Rj11:uX F 3913 auY (aV 1 (kq V99 Rj10 vc (kq V99 Rl1 vc (aV 0 (kq V99 Rj11 sp6 uW))))) (au3 F (Rj10∘xc) (Rl1∘uR) (Rj11∘oa)):=sqC (fun k=>aqd F k (Rj10∘xc) (Rl1∘uR) (Rj11∘oa)) (fun Rj7=>aRB F Rj7 Rj10 Rl1 Rj11) (aI8 F Rj10 Rl1 Rj11)
def au4(F:Nat)(a b)(c):=aqc F (au3 F a b c) a b c
theorem aJa F Rj10 Rl1 Rj11:uX F 1956 ag0 (aV 1 (kq V99 Rj10 vc (kq V99 Rl1 vc (aV 0 (kq V99 Rj11 sp6 uW))))) (au4 F (Rj10∘xc) (Rl1∘uR) (Rj11∘oa)):=sqC (fun k=>aqc F k (Rj10∘xc) (Rl1∘uR) (Rj11∘oa)) (fun Rj6=>aRA F Rj6 Rj10 Rl1 Rj11) (aI9 F Rj10 Rl1 Rj11)
def ak7(F:Nat)(a b)(c):=au4 F a b c
theorem aJb F Rj10 Rl1 Rj11:uX F 978 ag0 (kq V99 Rj10 vc (kq V99 Rl1 vc (aV 0 (kq V99 Rj11 sp6 uW)))) (ak7 F (Rj10∘xc) (Rl1∘uR) (Rj11∘oa)):=biC (aJa F Rj10 Rl1 Rj11)
def ak8(F:Nat)(a:zX→Rz)(f:Li×Li→Rz):zX→Rz:=fun (b,c,d,e)=>(a ((IntKind.i64.wrap (b+(64:Int))),c,d,e))
theorem aJc F Rl1 Rj11:uX F 979 xc (kq V99 Rl1 vc (aV 0 (kq V99 Rj11 sp6 uW))) (ak8 F (Rl1∘uR) (Rj11∘oa)):=fun _=>by kernel_rfl
def au5(F:Nat)(a)(b):=ak7 F (ak8 F a b) a b
theorem aJd F Rl1 Rj11:uX F 489 ag0 (kq V99 Rl1 vc (aV 0 (kq V99 Rj11 sp6 uW))) (au5 F (Rl1∘uR) (Rj11∘oa)):=sqC (fun k=>ak7 F k (Rl1∘uR) (Rj11∘oa)) (fun Rj10=>aJb F Rj10 Rl1 Rj11) (aJc F Rl1 Rj11)
def ag1(F:Nat)(a)(b):=ak4 F (au5 F a b) a b
theorem aJe F Rl1 Rj11:uX F 244 uR (kq V99 Rl1 vc (aV 0 (kq V99 Rj11 sp6 uW))) (ag1 F (Rl1∘uR) (Rj11∘oa)):=sqC (fun k=>ak4 F k (Rl1∘uR) (Rj11∘oa)) (fun Rj5=>aRz F Rj5 Rl1 Rj11) (aJd F Rl1 Rj11)
def aje:zX→Int×Li×Li×Li:=fun (a,b,c,d)=>(a,b,c,d)
def au6(F:Nat)(a:Li×Li→Rz):zX→Rz:=fun v=>eT (fun k=>ag1 F k a) F (aje v)
theorem aJf F Rj11:uX F 122 abD (aV 0 (kq V99 Rj11 sp6 uW)) (au6 F (Rj11∘oa)):=lpC aje (fun k=>ag1 F k (Rj11∘oa)) (fun Rl1=>aJe F Rl1 Rj11)
def au7(F:Nat)(a):=au6 F a
theorem aJg F Rj11:uX F 61 abD (kq V99 Rj11 sp6 uW) (au7 F (Rj11∘oa)):=biC (aJf F Rj11)
def ak9(F:Nat)(a):=aqb F (au7 F a) a
theorem aJh F Rj11:uX F 30 ak1 (kq V99 Rj11 sp6 uW) (ak9 F (Rj11∘oa)):=sqC (fun k=>aqb F k (Rj11∘oa)) (fun Rj4=>aRy F Rj4 Rj11) (aJg F Rj11)
def ala(F:Nat)(a:Ty0→Rz):Li×Li→Rz:=fun (b,c)=>(a (b,c,(List.replicate 32 0)))
theorem aJi F Rj12:uX F 62 oa (kq V99 Rj12 a8m uW) (ala F (Rj12∘ah8)):=fun _=>by kernel_rfl
def alb(F:Nat)(a:zX→Rz)(e:Li×Li→Rz):Ty0→Rz:=fun (b,c,d)=>(a ((0:Int),b,c,d))
theorem aJj F Rj13 Rj14:uX F 252 ah8 (kq V99 Rj13 aCM (kq V99 Rj14 an1 uW)) (alb F (Rj13∘aib) (Rj14∘KC)):=fun _=>by kernel_rfl
def ag2(F:Nat)(e:zX→Rz)(f:Li×Li→Rz):zX→Rz:=fun (a,b,c,d)=>(cond (decide (a < (32:Int))) (cond ((decide (0≤(IntKind.i64.wrap (Int.tdiv a (4:Int)))))&&(decide ((IntKind.i64.wrap (Int.tdiv a (4:Int))) < (8:Int)))) (cond (decide (0≤(IntKind.i64.wrap ((24:Int)-(IntKind.i64.wrap ((8:Int)*(Int.tmod a (4:Int)))))))) (cond ((decide (0≤a))&&(decide (a < (32:Int)))) (e ((IntKind.i64.wrap (a+(1:Int))),b,c,(d.set (Int.toNat a) (IntKind.u8.wrap (Int.fdiv (c.getD (Int.toNat (IntKind.i64.wrap (Int.tdiv a (4:Int)))) 0) (2^(min (Int.toNat (IntKind.i64.wrap ((24:Int)-(IntKind.i64.wrap ((8:Int)*(Int.tmod a (4:Int))))))) 32))))))) none) none) none) (f (b,d)))
theorem aJk F Rl3 Rj14:uX F 1012 aI3 (kq V99 Rl3 aCM (aV 4 (kq V99 Rj14 an1 uW))) (ag2 F (Rl3∘aI3) (Rj14∘KC)):=fun _=>by kernel_rfl
def ajf:zX→Int×Li×Li×Li:=fun (a,b,c,d)=>(a,b,c,d)
def au8(F:Nat)(a:Li×Li→Rz):zX→Rz:=fun v=>eT (fun k=>ag2 F k a) F (ajf v)
theorem aJl F Rj14:uX F 506 aib (aV 4 (kq V99 Rj14 an1 uW)) (au8 F (Rj14∘KC)):=lpC ajf (fun k=>ag2 F k (Rj14∘KC)) (fun Rl3=>aJk F Rl3 Rj14)
def au9(F:Nat)(a):=au8 F a
theorem aJm F Rj14:uX F 253 aib (kq V99 Rj14 an1 uW) (au9 F (Rj14∘KC)):=biC (aJl F Rj14)
def alc(F:Nat)(a):=alb F (au9 F a) a
theorem aJn F Rj14:uX F 126 ah8 (kq V99 Rj14 an1 uW) (alc F (Rj14∘KC)):=sqC (fun k=>alb F k (Rj14∘KC)) (fun Rj13=>aJj F Rj13 Rj14) (aJm F Rj14)
def aJo(F:Nat):Li×Li→Rz:=fun (b,a)=>(some ((.agg 32 (.rI .u8 a)),[]))
theorem aJp F:uX F 127 KC uW (aJo F):=fun _=>by kernel_rfl
def ava(F:Nat):=alc F (aJo F)
theorem aJq F:uX F 63 ah8 uW (ava F):=sqC (alc F) (fun Rj14=>aJn F Rj14) (aJp F)
def avb(F:Nat):=ala F (ava F)
theorem aJr F:uX F 31 oa uW (avb F):=sqC (ala F) (fun Rj12=>aJi F Rj12) (aJq F)
def avc(F:Nat):=ak9 F (avb F)
theorem aJs F:uX F 15 ak1 uW (avc F):=sqC (ak9 F) (fun Rj11=>aJh F Rj11) (aJr F)
def avd(F:Nat):=aqa F (avc F)
theorem aJt F:uX F 7 auX uW (avd F):=sqC (aqa F) (fun Rj3=>aRx F Rj3) (aJs F)
def ave(F:Nat):=ap9 F (avd F)
theorem aJu F:uX F 3 auW uW (ave F):=sqC (ap9 F) (fun Rj2=>aRw F Rj2) (aJt F)
def avf(F:Nat):=ap8 F (ave F)
theorem aJv F:uX F 1 aI1 uW (avf F):=sqC (ap8 F) (fun Rj1=>aRv F Rj1) (aJu F)
def f99(F:Nat):Li→Rz:=avf F
def r99:eP:=fun X H=>match X,H with
 | [(.vs (.rI .u8 a0) 0 1)],[]=>some ((decide (a0.length < 1073741000)),(.agg 32 (.rI .u8 (Sha.hash a0))),[])
 | _,_=>none
theorem a7l(n:Int):((n+(Sha.pad n).length)%64=0):=by
 simp only [Sha.pad,Sha.be8,List.length_cons,List.length_append,List.length_replicate,List.length_map,List.length_range];omega
theorem a8n(n:Int):(Sha.pad n).length≤73:=by
 simp only [Sha.pad,Sha.be8,List.length_cons,List.length_append,List.length_replicate,List.length_map,List.length_range];omega
theorem azv(a0:Li)(hl:a0.length < 4611686018427387904):Sha.hash a0=Sha.out (Sha.addS Sha.begin (Sha.padded a0)).1:=by
 have e:(Sha.addS Sha.begin a0).2.2=(a0.length:Int):=by
  show(Sha.addS (Sha.iv,List.replicate 64 0,0) a0).2.2=_
  rw [Sha.addS_n _ _ _ _ (by omega) (by omega),aBY (by omega) (by omega)];omega
 unfold Sha.hash Sha.fin Sha.padded
 rw [e,Sha.addS_append]
theorem aC6(m:Li)(i:Nat)(h:64*(i+1)≤m.length):(Sha.addS Sha.begin (m.take (64*(i+1)))).1=Sha.comp (Sha.addS Sha.begin (m.take (64*i))).1 ((m.drop (64*i)).take 64):=by
 have e1:m.take (64*(i+1))=m.take (64*i)++(m.drop (64*i)).take 64:=by rw [show 64*(i+1)=64*i+64 by omega,List.take_add]
 have hc:((m.drop (64*i)).take 64).length=64:=by rw [List.length_take,List.length_drop];omega
 rw [e1,Sha.addS_append]
 have hn:(Sha.addS Sha.begin (m.take (64*i))).2.2%64=0∧0≤(Sha.addS Sha.begin (m.take (64*i))).2.2∧(Sha.addS Sha.begin (m.take (64*i))).2.2≤18446744073709551615:=by
  have:(Sha.addS Sha.begin (m.take (64*i))).2.2=_:=Sha.addS_n (m.take (64*i)) Sha.iv (List.replicate 64 0) 0 (by omega) (by omega)
  rw [this,DU,List.length_take];omega
 have hb:(Sha.addS Sha.begin (m.take (64*i))).2.1.length=64:=(Sha.addS_lens _ _ rfl).2
 generalize Sha.addS Sha.begin (m.take (64*i))=s at *
 obtain⟨st,bl,n⟩:=s
 simp only at hn hb
 have:=Sha.addS_chunk ((m.drop (64*i)).take 64) st bl n hb hn.2.1 hn.2.2 (by omega)
 rw [this,if_pos (by omega)]
 simp only
 rw [show(n%64).toNat=0 by omega,List.take_zero,List.nil_append,hc,List.drop_of_length_le (l:=bl) (by omega),List.append_nil]
theorem s99(a0:Li)(hp:((decide (a0.length < 1073741000)))=true)(h0:okV (.vs (.rI .u8 a0) 0 1)):∃ F,f99 F a0=some ((.agg 32 (.rI .u8 (Sha.hash a0))),[]):=by
 have hl:a0.length < 1073741000:=of_decide_eq_true hp
 rw [azv a0 (by omega)]
 have hm64:(Sha.padded a0).length%64=0:=by have:=a7l (a0.length:Int);simp only [Sha.padded,List.length_append];omega
 have hmle:(Sha.padded a0).length≤a0.length+73:=by have:=a8n (a0.length:Int);simp only [Sha.padded,List.length_append];omega
 refine⟨(Sha.padded a0).length+65,?_⟩
 simp only [f99,avf,ap8,ave,ap9,avd,aqa,avc,ak9,aqb,au7,au6,aje]
 rw [hp,cond_true]
 generalize Sha.padded a0=m at *
 generalize hF:m.length+65=F
 refine iR (fun i=>(((64*i:Nat):Int),List.replicate 32 0,(Sha.addS Sha.begin (m.take (64*i))).1,m)) (m.length / 64) (by rfl) (fun i hi k=>?_) (fun k=>?_) F (by omega)
 ·simp only [ak4,ag1,au4,au5,ak7,ak8,aqc,au3]
  rw [cH,cH,bM (x:=((64*i:Nat):Int)+64) (by omega) (by omega),aK (by omega),aK (by omega)]
  rw [show(((64*i:Nat):Int)+64).toNat-(((64*i:Nat):Int)).toNat=64 by omega,Int.toNat_natCast,aK (by rw [List.length_take,List.length_drop];omega)]
  have hb:=aC6 m i (by omega)
  have h8:(Sha.addS Sha.begin (m.take (64*i))).1.length=8:=(Sha.addS_lens _ _ rfl).1
  rw [hb]
  generalize (Sha.addS Sha.begin (m.take (64*i))).1=st at *
  generalize (m.drop (64*i)).take 64=c at *
  simp only [aqd,au2,ak6,aqe,au0,auZ,ajd]
  refine iR (fun t=>(((64*i:Nat):Int),(Sha.rnds (Sha.sched c 64) (st.take 4,st.drop 4) t).1.getD 0 0,(Sha.rnds (Sha.sched c 64) (st.take 4,st.drop 4) t).1.getD 1 0,(Sha.rnds (Sha.sched c 64) (st.take 4,st.drop 4) t).1.getD 2 0,(Sha.rnds (Sha.sched c 64) (st.take 4,st.drop 4) t).1.getD 3 0,
   (Sha.rnds (Sha.sched c 64) (st.take 4,st.drop 4) t).2.getD 0 0,(Sha.rnds (Sha.sched c 64) (st.take 4,st.drop 4) t).2.getD 1 0,(Sha.rnds (Sha.sched c 64) (st.take 4,st.drop 4) t).2.getD 2 0,(Sha.rnds (Sha.sched c 64) (st.take 4,st.drop 4) t).2.getD 3 0,(t:Int),List.replicate 32 0,st,m,Sha.sched c 64)) 64 ?_ (fun t ht k'=>?_) (fun k'=>?_) F (by omega)
  ·obtain⟨b0,b1,b2,b3,b4,b5,b6,b7,rfl⟩:=a8g h8
   rfl
  ·simp only [ak5,cH]
   rw [bM (x:=(t:Int)+1) (by omega) (by omega)]
   repeat rw [aK (by omega)]
   rw [Int.toNat_natCast,Sha.ibits_xor_comm .u32 _ 4294967295]
   rfl
  ·simp only [ak5]
   rw [ba (by omega)]
   have e:((64*i:Nat):Int)+64=((64*(i+1):Nat):Int):=by omega
   simp only [au1,ak8]
   rw [bM (x:=((64*i:Nat):Int)+64) (by omega) (by omega),e]
   rfl
 ·simp only [ak4,ag1]
  rw [ba (by omega),List.take_of_length_le (show m.length≤64*(m.length / 64) by omega)]
  generalize (Sha.addS Sha.begin m).1=R1
  simp only [avb,ala,ava,alc,alb,au9,au8,ajf]
  refine iR (fun i=>((i:Int),List.replicate 32 0,R1,(List.range i).map (fun i=>IntKind.u8.wrap ((R1.getD (i / 4) 0).fdiv (2^(24-8*(i%4)))))++List.replicate (32-i) 0)) 32 (by rfl) (fun i hi k''=>?_) (fun k''=>?_) F (by omega)
  ·simp only [ag2,cH]
   rw [Kx (by omega),JY (by omega),bM (x:=(i:Int) / 4) (by omega) (by omega),bM (x:=8*((i:Int)%4)) (by omega) (by omega),bM (x:=24-8*((i:Int)%4)) (by omega) (by omega),bM (x:=(i:Int)+1) (by omega) (by omega),
    aK (by omega),aK (by omega),aK (by omega),aK (by omega)]
   rw [show min (24-8*((i:Int)%4)).toNat 32=24-8*(i%4) by omega,show((i:Int) / 4).toNat=i / 4 by omega,Int.toNat_natCast,ai2 _ 0 32 i hi rfl]
   rfl
  ·simp only [ag2]
   rw [ba (by omega),Nat.sub_self,List.replicate_zero,List.append_nil]
   rfl
theorem c99:CallOk Tryz.prog DW 99 r99:=Ao mixed tys ba6 Tryz.func99 (by kernel_rfl) (c:=sub (zZ Tryz.f99) []) (by kernel_rfl) (by
 intro X H r H' h hX hH
 unfold r99 at h;split at h <;> try contradiction
 ·obtain⟨hp,rfl,rfl⟩:=ik h
  obtain⟨F,hF⟩:=s99 _ hp (hX _ hm0)
  exact⟨_,abC (aJv F) hF⟩)
end Go.Am
end