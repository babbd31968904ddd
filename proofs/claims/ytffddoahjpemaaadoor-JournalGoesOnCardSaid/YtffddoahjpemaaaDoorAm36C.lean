/- Part of a proof. -/
import Derived.Test.YtffddoahjpemaaaDoorAm36A
import Derived.Test.YtffddoahjpemaaaDoorAmClaim
import Derived.Test.YtffddoahjpemaaaDoorTie
import Derived.Test.YtffddoahjpemaaaDoorCards
import Derived.LaidMore
import Derived.OpenShut
import Derived.Stop.Joined
import Derived.SevenTiedAt
import Derived.ProofKit
set_option linter.unusedSimpArgs false
set_option linter.unusedVariables false
section
/- What the claims of this seat share: the variables that a row lists. -/
namespace Go.Proofs.YtffddoahjpemaaaDoor
open Go Go.Am Go.ChangeShapes Go.WideShapes Go.ChangeAt Go.WideMaps Go.WideElems Go.RowKit
theorem own:ownKnob Tryd.prog.godebug=none:=by kernel_rfl
theorem laidOut:laidOutB Tryd.prog=true:=by kernel_rfl
abbrev lHash : List (String × DataW Unit) := [("gantry/hash.constants", Rows.laid_gantry_hash_constants)]
theorem door_met1(os:Os)(args:Array Value):laidMetH Tryd.prog lHash ((World.doorLaid Tryd.prog 400 os).forCall (fun _ _=>0) ⟨#[],args,[]⟩).memory:=
 laidMetH_of_parts3 (fuel:=8) (laidMet_of_run' 8 (by kernel_rfl) (by kernel_rfl)) (by kernel_rfl) (by kernel_rfl)
theorem gok1{W:World}(h:laidMetH Tryd.prog lHash W):GOk G36 W W0:=by
 rw [MakeChecks.laidMetH_plain _ _ _ (by kernel_rfl)] at h
 obtain⟨ps,h,_⟩:=h
 obtain⟨hc,_⟩:=laid_cells (g:=2) (t:=123) (m:=64) (e:=109) (k:=.u32) (zs:=Sha.K) h (by kernel_rfl) (by kernel_rfl) (by kernel_rfl) (by kernel_rfl) (by kernel_rfl) rfl
 refine gok_arr fun g r hg=>?_
 unfold G36 at hg
 split at hg
 ·injection hg with hg
  exact⟨.u32,Sha.K,hg.symm,by decide,hc⟩
 ·contradiction
end Go.Proofs.YtffddoahjpemaaaDoor
end
section
/- The same where a row bears a condition on the sizes of what it reads. -/
namespace Go.Am
open Go Go.ChangeShapes Go.WideShapes Go.RowKit
variable {P : Program} {H : Type} {enc : TypeId × Value → H} {W : World}
abbrev Shape2:=(H:Type)→DataW H→AV→Prop
def Opens2(P:Program)(t:TypeId)(S:Shape2):Prop:=∀ (H:Type) (enc:TypeId×Value→H) (W:World) (b0:Nat) (v:Value) (d:DataW H) (ps:List MemPlace),
 Value.okWide P W .any b0 t v→DataW.Trod enc P W 0 (fun _=>true) true t v d ps→(∀ n∈d.weights P t,n≤reachBytes) → ∃ X,S H d X∧Rep W W0 ρ0 X v
def any2(S:AV→Prop):Shape2:=fun _ _ X=>S X
theorem opens2_any{t:TypeId}{S:AV→Prop}(h:Opens P t S):Opens2 P t (any2 S):=h
def ints2(k:IntKind):Shape2:=fun H d X=>∃ zs:List Int,X=.vs (.rI k zs) 0 1∧(zs=[] ∨ ∃ es sp,d=.slice es sp∧es.length=zs.length)
theorem opens2_ints{t e:TypeId}{k:IntKind}(ht:P.underlying t=some (.slice e))(he:P.underlying e=some (.int k))(hc:P.cellsOf e=1)(hb0:Nat.blt 0 (P.bytesOf e)=true):Opens2 P t (ints2 k):=fun H enc W b0 v d ps hv hd hw=>by
 obtain⟨X,⟨zs,rfl⟩,hR⟩:=opens_ints ht he hc hb0 H enc W b0 v d ps hv hd hw
 obtain⟨a0,len0,cap0,rfl⟩:=okWide_slice ht hv
 obtain⟨fuel,hf⟩:=hd
 refine⟨_,⟨zs,rfl,?_⟩,hR⟩
 rcases open_ints ht he hc hf with ⟨h1,_⟩ | ⟨a,len,cap,zs',h1,_,hl,_,hz,hx,_,_⟩
 ·have h2:(Value.slice a0 len0 cap0)=.slice none 0 0:=by simpa [Value.cells] using h1
  rw [h2] at hR
  left
  cases hR with
  | vs0 _ _ _ _ hr hn=>exact List.length_eq_zero_iff.mp hn
 ·have h2:(Value.slice a0 len0 cap0)=.slice (some a) len cap:=by simpa [Value.cells] using h1
  rw [h2] at hR
  simp only [if_true] at hz
  simp only [Prod.mk.injEq] at hx
  cases hR with
  | vs0 _ _ _ _ hr hn=>exact .inl (List.length_eq_zero_iff.mp hn)
  | vs _ _ _ l _ _ _ _ hr h0 hn hp hk hcap hm hW hcell h=>
   refine .inr ⟨_,_,hx.1,?_⟩
   simp only [AV.size] at hn
   simp only [lits,List.length_map,List.length_take];omega
def intsR(k:IntKind):Shape2:=fun _ _ X=>∃ zs:List Int,X=.vs (.rI k zs) 0 1∧zs.length≤reachBytes
theorem slice_w{t e:TypeId}(ht:P.underlying t=some (.slice e))(hb0:Nat.blt 0 (P.bytesOf e)=true){es sp:List (DataW H)}(hw:∀ n∈(DataW.slice es sp).weights P t,n≤reachBytes):es.length≤reachBytes:=by
 have hb:0 < P.bytesOf e:=by rw [Nat.blt_eq] at hb0;exact hb0
 have:=hw ((es.length+sp.length)*P.bytesOf e) (by simp [DataW.weights,ht])
 have h3:=Nat.le_mul_of_pos_right (es.length+sp.length) hb
 omega
theorem opensR_ints{t e:TypeId}{k:IntKind}(ht:P.underlying t=some (.slice e))(hb0:Nat.blt 0 (P.bytesOf e)=true)(h:Opens2 P t (ints2 k)):Opens2 P t (intsR k):=fun H enc W b0 v d ps hv hd hw=>by
 obtain⟨X,⟨zs,rfl,hz⟩,hR⟩:=h H enc W b0 v d ps hv hd hw
 refine⟨_,⟨zs,rfl,?_⟩,hR⟩
 rcases hz with rfl | ⟨es,sp,rfl,he⟩
 ·simp
 ·rw [← he];exact slice_w ht hb0 hw
def Fits2:List Shape2→List (DataW H)→List AV→Prop
 | [],[],[]=>True
 | S :: l,d :: ds,X :: Xs=>S H d X∧Fits2 l ds Xs
 | _,_,_=>False
theorem Fits2.inv{S:Shape2}{l:List Shape2}:∀ {ds:List (DataW H)} {X:List AV},Fits2 (S :: l) ds X → ∃ d ds' x X',ds=d :: ds'∧X=x :: X'∧S H d x∧Fits2 l ds' X'
 | [],_,h=>h.elim
 | _ :: _,[],h=>h.elim
 | d :: ds,x :: X,h=>⟨d,ds,x,X,rfl,rfl,h.1,h.2⟩
theorem Fits2.inv0:∀ {ds:List (DataW H)} {X:List AV},Fits2 [] ds X→ds=[]∧X=[]
 | [],[],_=>⟨rfl,rfl⟩
 | [],_ :: _,h=>h.elim
 | _ :: _,_,h=>h.elim
def OpensAll2(P:Program):List TypeId→List Shape2→Prop
 | [],[]=>True
 | t :: ts,S :: l=>Opens2 P t S∧OpensAll2 P ts l
 | _,_=>False
theorem open_all2:∀ {ts:List TypeId} {l:List Shape2} {vs:List Value} {ds:List (DataW H)} {ps:List MemPlace} {b0:Nat},OpensAll2 P ts l→DataW.TrodAll enc P W 0 (fun _=>true) true ts vs ds ps →
  (∀ (j:Nat) t v,ts[j]?=some t→vs[j]?=some v→Value.okWide P W .any b0 t v)→(∀ n∈DataW.weightsEach P ts ds,n≤reachBytes) → ∃ X,Fits2 l ds X∧Reps W W0 ρ0 X vs
 | [],[],[],[],_,_,_,h,_,_=>⟨[],trivial,trivial⟩
 | [],[],[],_ :: _,_,_,_,h,_,_=>h.elim
 | [],[],_ :: _,[],_,_,_,h,_,_=>h.elim
 | [],[],_ :: _,_ :: _,_,_,_,h,_,_=>h.elim
 | [],_ :: _,_,_,_,_,ho,_,_,_=>ho.elim
 | _ :: _,[],_,_,_,_,ho,_,_,_=>ho.elim
 | _ :: _,_ :: _,[],_,_,_,_,h,_,_=>h.elim
 | _ :: _,_ :: _,_ :: _,[],_,_,_,h,_,_=>h.elim
 | t :: ts,S :: l,v :: vs,d :: ds,ps,b0,ho,h,hv,hw=>by
  obtain⟨p,q,h1,h2,_⟩:=h
  simp only [DataW.weightsEach,List.mem_append] at hw
  obtain⟨X,hX,hR⟩:=ho.1 H enc W b0 v d p (hv 0 t v rfl rfl) h1 (fun n hn=>hw n (.inl hn))
  obtain⟨Xs,hXs,hRs⟩:=open_all2 ho.2 h2 (fun j t v g1 g2=>hv (j+1) t v (by simpa using g1) (by simpa using g2)) (fun n hn=>hw n (.inr hn))
  exact⟨X :: Xs,⟨hX,hXs⟩,hR,hRs⟩
theorem law_calls2{G:Nat→Option AV}{f:Nat}{fn:Func}{s:ChangeSpec}{run:List AV→List Blk→Option (Bool×AV×List Blk)}{base:Nat}{args:Array Value}{ds gs:List (DataW H)}{before:List MemPlace}{tb:TypeId}{l:List Shape2}{C:List (DataW H)→Prop}
  (hc:CallOk P G f run) (hG:GOk G W W0) (ho:OpensAll2 P fn.params.toList l) (hrun:∀ X ds,Fits2 (H:=H) l ds X→C ds→run X []=some (true,.bool true,[]))
  (hl:laidOutB P=true) (ht:(fn.params.toList.all fun t=>P.readableRec t&&decide (t < P.types.size))=true) (hr:fn.resultTypes = #[tb]) (hb:P.underlying tb=some .bool) (hvars:s.vars=[])
  (hfn:∀ ds:List (DataW H),ds.length=fn.params.size→s.fn H ds={ results:=[.lit (.bool true)],args:=ds })
  (hval:∀ (j:Nat) t v,fn.params[j]?=some t→args[j]?=some v→Value.okWide P W .any base t v) (hW:DataW.Whole enc P fn.params.toList s.vars false W args.toList ds gs before)
  (hsz:(DataW.weightsEach P (fn.params.toList++s.plain.varTypes P) (ds++gs)).all (· ≤ reachBytes)=true) (hC:C (ds++gs)) :
  Calls P f args W fun e W'=>∃ v,e=.returned v∧s.post enc P fn false true false false W args v W':=by
 have hW':=hW
 obtain⟨p,q,hA,hV,rfl,hfz,hnd⟩:=hW'
 have hg:gs=[]:=by
  rw [hvars] at hV
  cases gs with
  | nil=>rfl
  | cons _ _=>exact hV.elim
 subst hg
 rw [List.append_nil] at hC
 have hlen:ds.length=fn.params.size:=by
  have:∀ {ts:List TypeId} {vs:List Value} {ds:List (DataW H)} {ps:List MemPlace},DataW.TrodAll enc P W 0 (fun _=>true) true ts vs ds ps→ds.length=ts.length:=by
   intro ts
   induction ts with
   | nil=>intro vs ds ps h;cases vs <;> cases ds <;> first | rfl | exact h.elim
   | cons t ts ih=>
    intro vs ds ps h
    cases vs with
    | nil=>exact h.elim
    | cons v vs=>cases ds with
     | nil=>exact h.elim
     | cons d ds=>obtain⟨_,_,_,h2,_⟩:=h;simp [ih h2]
  rw [this hA];simp
 obtain⟨X,hX,hR⟩:=open_all2 (b0:=base) ho hA (fun j t v g1 g2=>hval j t v (by rw [← Array.getElem?_toList];exact g1) (by rw [← Array.getElem?_toList];exact g2)) (fun n hn=>by
  have:=List.all_eq_true.1 hsz n (by
   rw [List.append_nil]
   have key:∀ (ts us:List TypeId) (ds:List (DataW H)),n∈DataW.weightsEach P ts ds→n∈DataW.weightsEach P (ts++us) ds:=by
    intro ts
    induction ts with
    | nil=>intro us ds h;cases ds <;> simp [DataW.weightsEach] at h
    | cons t ts ih=>
     intro us ds h
     cases ds with
     | nil=>simp [DataW.weightsEach] at h
     | cons d ds=>
      simp only [DataW.weightsEach,List.cons_append,List.mem_append] at h ⊢
      exact h.imp id (ih us ds)
   exact key _ _ _ hn)
  simpa using this)
 refine(enter hc (hrun X ds hX hC) hG hR).mono ?_
 rintro e W' ⟨rfl,hB⟩
 exact⟨_,rfl,post_true hl ht hr hb hW hvars (by rw [List.append_nil];exact hfn ds hlen) hB⟩
end Go.Am
end
section
/- Slices of structs whose fields are integers, bools, strings and slices of integers, as arguments. -/
namespace Go.Am
open Go Go.ChangeShapes Go.WideShapes Go.RowKit
variable {P : Program} {H : Type} {enc : TypeId × Value → H} {W : World}
def FOpens(P:Program)(t:TypeId)(k:CK):Prop:=∀ (H:Type) (enc:TypeId×Value→H) (W:World) (n:Nat) (cs:List Value) (x:DataW H×List MemPlace),
 DataW.trod enc P W 0 (fun _=>true) true n t cs=some x→(∀ m∈x.1.weights P t,m≤reachBytes) → ∃ c f,cs=[c]∧Rep W W0 ρ0 (tval k f) c∧f.length≤reachBytes+1
theorem fopens_int{t:TypeId}{k:IntKind}(ht:P.underlying t=some (.int k)):FOpens P t (.int k):=fun H enc W n cs x h _=>by
 obtain⟨z,h1,_,h3⟩:=DataW.trod_int ht h
 exact⟨_,[z],h1,.int k z (lit_has h3),by simp⟩
theorem fopens_sl{t e:TypeId}{k:IntKind}(ht:P.underlying t=some (.slice e))(he:P.underlying e=some (.int k))(hc:P.cellsOf e=1)(hb0:Nat.blt 0 (P.bytesOf e)=true):FOpens P t (.sl k):=fun H enc W n cs x h hw=>by
 have hb:0 < P.bytesOf e:=by rw [Nat.blt_eq] at hb0;exact hb0
 rcases open_ints ht he hc h with ⟨h1,_⟩ | ⟨a,len,cap,zs,h1,_,hl,_,hz,hx,hcell,hwf⟩
 ·exact⟨_,[],h1,.vs0 _ 1 0 none rfl rfl,by simp⟩
 ·simp only [if_true] at hz
  by_cases h0:len=0
  ·subst h0
   exact⟨_,[],h1,.vs0 _ 1 cap _ rfl rfl,by simp⟩
  ·have hlt:len≤reachBytes:=by
    have:=hw (((lits (H:=H) k (zs.take len)).length+(lits (H:=H) k (zs.drop len)).length)*P.bytesOf e) (by rw [hx];simp [DataW.weights,ht])
    simp only [lits,List.length_map,List.length_take,List.length_drop] at this
    have h3:=Nat.le_mul_of_pos_right (min len zs.length+(zs.length-len)) hb
    omega
   refine⟨_,zs.take len,h1,?_,by rw [List.length_take];omega⟩
   have hr:reachBytes < 4611686018427387904:=by decide
   have ha:=hcell 0 (by omega)
   rw [show a.add 0=a by simp [Addr.add]] at ha
   rw [(add_of_cell ha 0).1]
   refine .vs _ 0 1 len cap a.block a.off (fun i=>.int k (zs.getD i 0)) rfl (by omega) (by simp [AV.size];omega) (by omega) (.inl rfl) hl (by omega) (fun h=>h) (fun j hj=>?_) (fun j hj=>?_)
   ·rw [← (add_of_cell ha j).2];exact hcell j (by omega)
   ·simp only [AV.cell]
    rw [getD_take _ _ _ _ (by omega)]
    refine .int k _ (lit_has (hwf _ ?_))
    rw [List.getD_eq_getElem?_getD,List.getElem?_eq_getElem (by omega)]
    exact List.getElem_mem _
def FAll(P:Program):List Field→List CK→Nat→Prop
 | [],[],_=>True
 | f :: fs,k :: ks,c=>f.offset=c∧P.cellsOf f.type=1∧FOpens P f.type k∧FAll P fs ks (c+1)
 | _,_,_=>False
theorem FAll.len:∀ {fs:List Field} {ks:List CK} {c:Nat},FAll P fs ks c→fs.length=ks.length
 | [],[],_,_=>rfl
 | [],_ :: _,_,h=>h.elim
 | _ :: _,[],_,h=>h.elim
 | _ :: fs,_ :: ks,c,h=>by simp [FAll.len h.2.2.2]
theorem FAll.at:∀ {fs:List Field} {ks:List CK} {c:Nat},FAll P fs ks c → ∀ j,j < ks.length → ∃ f,fs[j]?=some f∧f.offset=c+j∧P.cellsOf f.type=1∧FOpens P f.type (ks.getD j .bool)
 | [],[],_,_,j,hj=>by simp at hj
 | [],_ :: _,_,h,_,_=>h.elim
 | _ :: _,[],_,h,_,_=>h.elim
 | f :: fs,k :: ks,c,h,0,_=>⟨f,rfl,h.1,h.2.1,h.2.2.1⟩
 | f :: fs,k :: ks,c,h,j+1,hj=>by
  obtain⟨g,h1,h2,h3,h4⟩:=FAll.at h.2.2.2 j (by simpa using hj)
  exact⟨g,by simpa using h1,by omega,h3,by simpa using h4⟩
theorem weightsEach_mem:∀ {ts:List TypeId} {ds:List (DataW H)} {j:Nat} {t:TypeId} {d:DataW H} {n:Nat},ts[j]?=some t→ds[j]?=some d→n∈d.weights P t→n∈DataW.weightsEach P ts ds
 | [],_,_,_,_,_,h,_,_=>by simp at h
 | _ :: _,[],_,_,_,_,_,h,_=>by simp at h
 | t :: ts,d :: ds,0,_,_,n,h1,h2,h3=>by
  simp only [List.getElem?_cons_zero,Option.some.injEq] at h1 h2
  subst h1;subst h2
  simp only [DataW.weightsEach,List.mem_append];exact .inl h3
 | t :: ts,d :: ds,j+1,_,_,n,h1,h2,h3=>by
  simp only [DataW.weightsEach,List.mem_append]
  exact .inr (weightsEach_mem (by simpa using h1) (by simpa using h2) h3)
def recsR(ks:List CK):Shape2:=fun _ _ X=>∃ (xs:List (List (List Int))) (m:Nat),X=.vs (.rT ks xs) m ks.length∧m≤reachBytes∧xs.length=m ∧ ∀ x∈xs,x.length=ks.length ∧ ∀ f∈x,f.length≤reachBytes+1
theorem opensR_recs{t e:TypeId}{fs:Array Field}{ks:List CK}(ht:P.underlying t=some (.slice e))(he:P.underlying e=some (.struct fs))(hf:FAll P fs.toList ks 0)(hn:P.cellsOf e=ks.length)(h1n:Nat.blt 1 ks.length=true)
  (hb0:Nat.blt 0 (P.bytesOf e)=true):Opens2 P t (recsR ks):=fun H enc W b0 v d ps hv hd hw=>by
 have hb:0 < P.bytesOf e:=by rw [Nat.blt_eq] at hb0;exact hb0
 rw [Nat.blt_eq] at h1n
 have hk1:klen=klen:=rfl
 obtain⟨a0,len0,cap0,rfl⟩:=okWide_slice ht hv
 obtain⟨fuel,hf'⟩:=hd
 have hkl:∀ l,klen l ks.length=l:=fun l=>by
  unfold klen;split
  ·omega
  ·rfl
 rcases DataW.trod_slice ht hf' with ⟨h1,_⟩ | ⟨a,len,cap,elems,rest,m,_,h1,hx,_,hl,_,hlen,hel,_,_⟩
 ·have h2:(Value.slice a0 len0 cap0)=.slice none 0 0:=by simpa [Value.cells] using h1
  rw [h2]
  exact⟨.vs (.rT ks []) 0 ks.length,⟨[],0,rfl,Nat.zero_le _,rfl,fun x hx=>by simp at hx⟩,.vs0 _ _ 0 none rfl (by simp [AV.size])⟩
 ·have h2:(Value.slice a0 len0 cap0)=.slice (some a) len cap:=by simpa [Value.cells] using h1
  rw [h2]
  simp only [Prod.mk.injEq] at hx
  by_cases h0:len=0
  ·subst h0
   exact⟨.vs (.rT ks []) 0 ks.length,⟨[],0,rfl,Nat.zero_le _,rfl,fun x hx=>by simp at hx⟩,.vs0 _ _ cap _ rfl (by simp [AV.size])⟩
  ·have hlt:len≤reachBytes:=by
    have:=hw (((elems.map (·.1)).length+(rest.map (·.1)).length)*P.bytesOf e) (by rw [hx.1];simp [DataW.weights,ht])
    simp only [List.length_map] at this
    have h3:=Nat.le_mul_of_pos_right (elems.length+rest.length) hb
    omega
   have hr:reachBytes < 4611686018427387904:=by decide
   have each:∀ i j,i < len→j < ks.length → ∃ c f,W.cell? ((a.add (i*ks.length)).add j)=some c∧Rep W W0 ρ0 (tval (ks.getD j .bool) f) c∧f.length≤reachBytes+1:=fun i j hi hj=>by
    have h3:=hel i hi
    rw [hn,List.getElem?_eq_getElem (show i < elems.length by omega)] at h3
    cases hcs:W.cells? 0 (a.add (i*ks.length)) ks.length with
    | none=>rw [hcs] at h3;cases h3
    | some cs=>
     rw [hcs] at h3
     obtain⟨_,_,g3⟩:=World.cells?_some hcs
     have h3':DataW.trod enc P W 0 (fun _=>true) true m e cs=some elems[i]:=h3
     obtain⟨xs,m1,_,gx,_,gn,gel⟩:=DataW.trod_struct he h3'
     obtain⟨f,q1,q2,q3,q4⟩:=hf.at j hj
     have q1':fs[j]?=some f:=by rw [← Array.getElem?_toList];exact q1
     have hjx:j < xs.length:=by
      rw [gn];have:=hf.len;rw [← Array.length_toList];omega
     have h4:=gel j f q1'
     rw [q2,q3,Nat.zero_add,List.getElem?_eq_getElem hjx] at h4
     obtain⟨c,z,r1,r2,r3⟩:=q4 H enc W m1 _ _ h4 (fun n hn'=>by
      refine hw n ?_
      rw [hx.1]
      simp only [DataW.weights,ht,List.mem_cons,List.mem_append]
      refine .inr (.inl (weightsAll_mem (d:=elems[i].1) (List.mem_map.mpr ⟨_,List.getElem_mem _,rfl⟩) ?_))
      rw [gx]
      simp only [DataW.weights,he]
      exact weightsEach_mem (j:=j) (t:=f.type) (d:=xs[j].1) (by rw [List.getElem?_map,q1];rfl) (by rw [List.getElem?_map,List.getElem?_eq_getElem hjx];rfl) hn')
     refine⟨c,z,?_,r2,r3⟩
     rw [g3 j hj]
     have:((cs.drop j).take 1)[0]?=some c:=by rw [r1];rfl
     simpa [List.getElem?_take] using this
   have ha:∃ z,W.cell? a=some z:=by
    obtain⟨c,f,q,_⟩:=each 0 0 (by omega) (by omega)
    rw [Nat.zero_mul,show(a.add 0).add 0=a by simp [Addr.add]] at q
    exact⟨c,q⟩
   obtain⟨z0,ha⟩:=ha
   have ea:=(add_of_cell ha 0).1
   have eaddr:∀ i j,(a.add (i*ks.length)).add j=⟨a.block,a.off+(i*ks.length+j),none⟩:=fun i j=>by
    rw [(add_of_cell ha (i*ks.length)).2]
    unfold Addr.add;split
    ·rename_i h0';rw [h0',Nat.add_zero]
    ·show(⟨a.block,a.off+i*ks.length+j,none⟩:Addr)=_
     rw [Nat.add_assoc]
   have pick:∀ i j,∃ f:List Int,(i < len→j < ks.length → ∃ c,W.cell? ⟨a.block,a.off+(i*ks.length+j),none⟩=some c∧Rep W W0 ρ0 (tval (ks.getD j .bool) f) c)∧f.length≤reachBytes+1:=fun i j=>by
    by_cases hi:i < len
    ·by_cases hj:j < ks.length
     ·obtain⟨c,f,q1,q2,q3⟩:=each i j hi hj
      rw [eaddr] at q1
      exact⟨f,fun _ _=>⟨c,q1,q2⟩,q3⟩
     ·exact⟨[],fun _ h=>absurd h hj,by simp⟩
    ·exact⟨[],fun h=>absurd h hi,by simp⟩
   let F:Nat→Nat→List Int:=fun i j=>Classical.choose (pick i j)
   have hF:∀ i j,i < len→j < ks.length → ∃ c,W.cell? ⟨a.block,a.off+(i*ks.length+j),none⟩=some c∧Rep W W0 ρ0 (tval (ks.getD j .bool) (F i j)) c:=fun i j=>(Classical.choose_spec (pick i j)).1
   have hF2:∀ i j,(F i j).length≤reachBytes+1:=fun i j=>(Classical.choose_spec (pick i j)).2
   refine⟨.vs (.rT ks ((List.range len).map fun i=>(List.range ks.length).map fun j=>F i j)) len ks.length,⟨_,len,rfl,hlt,by simp,fun x hx=>?_⟩,?_⟩
   ·simp only [List.mem_map,List.mem_range] at hx
    obtain⟨i,_,rfl⟩:=hx
    refine⟨by simp,fun f hf=>?_⟩
    simp only [List.mem_map,List.mem_range] at hf
    obtain⟨j,_,rfl⟩:=hf
    exact hF2 i j
   ·rw [ea]
    have hpos:0 < ks.length:=by omega
    refine .vs _ len ks.length len cap a.block a.off (fun j=>(W.cell? ⟨a.block,a.off+j,none⟩).getD Go.undef) rfl hpos (by simp [AV.size]) (by omega) (.inl (hkl len).symm) hl (by omega) (fun h=>h) (fun j hj=>?_) (fun j hj=>?_)
    ·have hi:j / ks.length < len:=by rw [Nat.div_lt_iff_lt_mul hpos];exact hj
     obtain⟨c,q1,_⟩:=hF (j / ks.length) (j%ks.length) hi (Nat.mod_lt _ hpos)
     rw [Nat.mul_comm,Nat.div_add_mod] at q1
     rw [q1];rfl
    ·have hi:j / ks.length < len:=by rw [Nat.div_lt_iff_lt_mul hpos];exact hj
     have hjm:=Nat.mod_lt j hpos
     obtain⟨c,q1,q2⟩:=hF (j / ks.length) (j%ks.length) hi hjm
     rw [Nat.mul_comm,Nat.div_add_mod] at q1
     rw [q1]
     simp only [AV.cell,Option.getD_some]
     have e1:(((List.range len).map fun i=>(List.range ks.length).map fun j=>F i j).getD (j / ks.length) []).getD (j%ks.length) []=F (j / ks.length) (j%ks.length):=by
      have e2:((List.range len).map fun i=>(List.range ks.length).map fun j=>F i j).getD (j / ks.length) []=(List.range ks.length).map fun j'=>F (j / ks.length) j':=by
       rw [List.getD_eq_getElem?_getD,List.getElem?_map,List.getElem?_range hi];rfl
      rw [e2,List.getD_eq_getElem?_getD,List.getElem?_map,List.getElem?_range hjm];rfl
     rw [e1];exact q2
end Go.Am
end
section
namespace Go.Am
open Go Go.Proofs
abbrev sp7:List (Nat×Md):=[(2,.plain),(4,.plain),(5,.plain),(6,.plain),(7,.plain),(21,.plain),(22,.plain)]
abbrev sp8:List (Nat×Md):=[(2,.plain),(4,.plain),(6,.plain),(7,.plain),(94,.plain)]
abbrev sp9:List (Nat×Md):=[(1,.plain),(2,.plain),(4,.plain)]
abbrev sp10:List (Nat×Md):=[(2,.plain),(4,.plain),(5,.plain)]
abbrev sp11:List (Nat×Md):=[(2,.plain),(4,.plain),(5,.plain),(6,.plain),(7,.plain)]
abbrev sp12:List (Nat×Md):=[(2,.plain),(4,.plain),(6,.plain),(7,.plain)]
abbrev sp13:List (Nat×Md):=[(2,.plain),(4,.plain)]
abbrev sp14:List (Nat×Md):=[(1,.plain),(2,.plain),(3,.plain),(4,.plain)]
abbrev sp15:List (Nat×Md):=[(1,.plain),(2,.plain),(3,.plain),(4,.plain),(23,.plain)]
abbrev sp16:List (Nat×Md):=[(1,.plain),(2,.plain),(6,.plain),(40,.plain)]
abbrev sp17:List (Nat×Md):=[(1,.plain),(2,.plain)]
abbrev sp18:List (Nat×Md):=[(1,.plain),(2,.plain),(3,.plain)]
abbrev sp19:List (Nat×Md):=[(1,.plain),(2,.plain),(6,.plain)]
abbrev sp20:List (Nat×Md):=[(2,.plain),(6,.plain)]
abbrev Ty6:=Li×Li×Li×Li×Li
abbrev Ty7:=Li×Int×Li×Li×Li×Li×Li
abbrev Ty8:=Li×Li×Li×Li
abbrev Ty9:=Int×Li×Li×Li×Li
abbrev Ty10:=Li×Li×Int×Li
abbrev Ty11:=Li×Li×Li×Int×Li×Li×Int
abbrev Ty12:=Li×Li×Int×Li×Li×Int
abbrev Ty13:=Li×Li×Int
abbrev Ty14:=Int×Li×Li×Int×Li
abbrev Ty15:=Int×Li×Li×Int×Li×Li
abbrev Ty16:=Int×Int×Li×Li×Int×Li×Li
abbrev Ty17:=Li×Li×Int×Li×Li
def lV72:List CEnt:=[(76,[some 5],r76),(77,[none,none,none,none],r77)]
def V72:Env:=mkEnv T36 G36 lV72
noncomputable abbrev Kf4:=kFin V72 none (Tryd.f72).results.toList
theorem eV72:EOk Tryd.prog V72:=eok_mk (by exact⟨c76,c77,trivial⟩)
def Af72(F:Nat):Cuts:={ F:=F,at_:=fun n=>match n with | 4018=>some sp7 | 12014=>some sp8 | _=>none,join:=fun n=>match n with | 1049=>some sp9 | 2047=>some sp10 | 3045=>some sp11 | 4020=>some sp7 | 11022=>some sp12 | 12016=>some sp8 | 17003=>some sp13 | _=>none }
noncomputable abbrev XAf72(F:Nat){α:Type}:=@aexec α V72 (Af72 F)
def ef72_a:Li×Li→St:=fun (a0,a1)=>⟨[(0,(.agg 8 (.rI .u32 a0))),(1,(.vs (.rI .u8 a1) 0 1))],[],0,116,0⟩
def ef72j1:Ty0→St:=fun (t1,x2,x3)=>⟨[(1,(.vs (.rI .u8 t1) 0 1)),(2,.ptr 0 0 8 0 0 0 8),(4,.ptr 1 0 8 0 0 0 8)],[(0,(.cells 8 (.rI .u32 x2) true)),(1,(.cells 8 (.rI .u32 x3) true))],2,116,0⟩
def ef72j2:Ty0→St:=fun (x1,x2,x3)=>⟨[(2,.ptr 0 0 8 0 0 0 8),(4,.ptr 1 0 8 0 0 0 8),(5,.ptr 2 0 64 0 0 0 64)],[(0,(.cells 8 (.rI .u32 x1) true)),(1,(.cells 8 (.rI .u32 x2) true)),(2,(.cells 64 (.rI .u32 x3) true))],3,116,0⟩
def ef72j3:Ty6→St:=fun (x1,x2,x3,x4,x5)=>⟨[(2,.ptr 0 0 8 0 0 0 8),(4,.ptr 1 0 8 0 0 0 8),(5,.ptr 2 0 64 0 0 0 64),(6,.ptr 3 0 4 0 0 0 4),(7,.ptr 4 0 4 0 0 0 4)],[(0,(.cells 8 (.rI .u32 x1) true)),(1,(.cells 8 (.rI .u32 x2) true)),(2,(.cells 64 (.rI .u32 x3) true)),(3,(.cells 4 (.rI .u32 x4) true)),(4,(.cells 4 (.rI .u32 x5) true))],5,116,0⟩
def ef72j4:Ty7→St:=fun (t21,t22,x3,x4,x5,x6,x7)=>⟨[(2,.ptr 0 0 8 0 0 0 8),(4,.ptr 1 0 8 0 0 0 8),(5,.ptr 2 0 64 0 0 0 64),(6,.ptr 3 0 4 0 0 0 4),(7,.ptr 4 0 4 0 0 0 4),(21,(.agg 64 (.rI .u32 t21))),(22,.int .i64 t22)],[(0,(.cells 8 (.rI .u32 x3) true)),(1,(.cells 8 (.rI .u32 x4) true)),(2,(.cells 64 (.rI .u32 x5) true)),(3,(.cells 4 (.rI .u32 x6) true)),(4,(.cells 4 (.rI .u32 x7) true))],5,116,0⟩
def ef72l1:Ty7→St:=ef72j4
def ef72j5:Ty8→St:=fun (x1,x2,x3,x4)=>⟨[(2,.ptr 0 0 8 0 0 0 8),(4,.ptr 1 0 8 0 0 0 8),(6,.ptr 2 0 4 0 0 0 4),(7,.ptr 3 0 4 0 0 0 4)],[(0,(.cells 8 (.rI .u32 x1) true)),(1,(.cells 8 (.rI .u32 x2) true)),(2,(.cells 4 (.rI .u32 x3) true)),(3,(.cells 4 (.rI .u32 x4) true))],4,116,0⟩
def ef72j6:Ty9→St:=fun (t94,x2,x3,x4,x5)=>⟨[(2,.ptr 0 0 8 0 0 0 8),(4,.ptr 1 0 8 0 0 0 8),(6,.ptr 2 0 4 0 0 0 4),(7,.ptr 3 0 4 0 0 0 4),(94,.int .i64 t94)],[(0,(.cells 8 (.rI .u32 x2) true)),(1,(.cells 8 (.rI .u32 x3) true)),(2,(.cells 4 (.rI .u32 x4) true)),(3,(.cells 4 (.rI .u32 x5) true))],4,116,0⟩
def ef72l2:Ty9→St:=ef72j6
def ef72j7:Li×Li→St:=fun (x1,x2)=>⟨[(2,.ptr 0 0 8 0 0 0 8),(4,.ptr 1 0 8 0 0 0 8)],[(0,(.cells 8 (.rI .u32 x1) true)),(1,(.cells 8 (.rI .u32 x2) true))],2,116,0⟩
def f72_1(F:Nat)(kj1:Ty0→Rz):Li×Li→Rz:=fun (a0,a1)=>(kj1 (a1,a0,[0,0,0,0,0,0,0,0]))
theorem f72_1_eq(F:Nat)(Rj1:St→Rz):∀ v,XAf72 F (bp Tryd.f72 2) (ef72_a v) (kSeq (kc V72 Rj1 sp9) Kf4)=f72_1 F (Rj1∘ef72j1) v:=by
 rintro⟨a0,a1⟩;kernel_rfl
def f72_2(F:Nat)(kj2:Ty0→Rz):Ty0→Rz:=fun (t1,x2,x3)=>(cond (decide (t1.length=64)) (kj2 (x2,x3,(Sha.sched t1 64))) none)
theorem f72_2_eq(F:Nat)(Rj2:St→Rz):∀ v,XAf72 F (bp Tryd.f72 6) (ef72j1 v) (kSeq (kc V72 Rj2 sp10) Kf4)=f72_2 F (Rj2∘ef72j2) v:=by
 rintro⟨t1,x2,x3⟩;kernel_rfl
def f72_3(F:Nat)(kj3:Ty6→Rz):Ty0→Rz:=fun (x1,x2,x3)=>(kj3 (x1,x2,x3,(x1.take 4),((x1.drop 4).take 4)))
theorem f72_3_eq(F:Nat)(Rj3:St→Rz):∀ v,XAf72 F (bp Tryd.f72 14) (ef72j2 v) (kSeq (kc V72 Rj3 sp11) Kf4)=f72_3 F (Rj3∘ef72j3) v:=by
 rintro⟨x1,x2,x3⟩;kernel_rfl
def f72_4(F:Nat)(kj4:Ty7→Rz)(kj5:Ty8→Rz):Ty6→Rz:=fun (x1,x2,x3,x4,x5)=>(kj4 (Sha.K,(0:Int),x1,x2,x3,x4,x5))
theorem f72_4_eq(F:Nat)(Rj4 Rj5:St→Rz):∀ v,XAf72 F (bp Tryd.f72 60) (ef72j3 v) (kSeq (kc V72 Rj4 sp7) (kSeq (kc V72 Rj5 sp12) Kf4))=f72_4 F (Rj4∘ef72j4) (Rj5∘ef72j5) v:=by
 rintro⟨x1,x2,x3,x4,x5⟩;kernel_rfl
def f72_5(F:Nat)(kl1:Ty7→Rz)(kj5:Ty8→Rz):Ty7→Rz:=fun (t21,t22,x3,x4,x5,x6,x7)=>(cond (decide (t22 < (64:Int))) (cond ((decide (0≤t22))&&(decide (t22 < (64:Int)))) (cond ((decide (0≤t22))&&(decide (t22 < (64:Int)))) (kl1 (t21,(IntKind.i64.wrap (t22+(1:Int))),x3,x4,x5,[(IntKind.u32.wrap ((IntKind.u32.wrap ((IntKind.u32.wrap ((IntKind.u32.wrap ((IntKind.u32.wrap ((x7.getD 3 0)+(Sha.mix (x7.getD 0 0) (6:Int) (11:Int) (25:Int))))+(ibits .xor .u32 (ibits .and .u32 (x7.getD 0 0) (x7.getD 1 0)) (ibits .and .u32 (ibits .xor .u32 (4294967295:Int) (x7.getD 0 0)) (x7.getD 2 0)))))+(t21.getD (Int.toNat t22) 0)))+(x5.getD (Int.toNat t22) 0)))+(IntKind.u32.wrap ((Sha.mix (x6.getD 0 0) (2:Int) (13:Int) (22:Int))+(ibits .xor .u32 (ibits .xor .u32 (ibits .and .u32 (x6.getD 0 0) (x6.getD 1 0)) (ibits .and .u32 (x6.getD 0 0) (x6.getD 2 0))) (ibits .and .u32 (x6.getD 1 0) (x6.getD 2 0))))))),(x6.getD 0 0),(x6.getD 1 0),(x6.getD 2 0)],[(IntKind.u32.wrap ((x6.getD 3 0)+(IntKind.u32.wrap ((IntKind.u32.wrap ((IntKind.u32.wrap ((IntKind.u32.wrap ((x7.getD 3 0)+(Sha.mix (x7.getD 0 0) (6:Int) (11:Int) (25:Int))))+(ibits .xor .u32 (ibits .and .u32 (x7.getD 0 0) (x7.getD 1 0)) (ibits .and .u32 (ibits .xor .u32 (4294967295:Int) (x7.getD 0 0)) (x7.getD 2 0)))))+(t21.getD (Int.toNat t22) 0)))+(x5.getD (Int.toNat t22) 0))))),(x7.getD 0 0),(x7.getD 1 0),(x7.getD 2 0)])) none) none) (kj5 (x3,x4,x6,x7)))
theorem f72_5_eq(F:Nat)(Rl1 Rj5:St→Rz):∀ v,XAf72 F (bp Tryd.f72 244) (ef72l1 v) (kSeq (kc V72 Rl1 sp7) (kBlock 0 (kSeq (kc V72 Rj5 sp12) Kf4)))=f72_5 F (Rl1∘ef72l1) (Rj5∘ef72j5) v:=by
 rintro⟨t21,t22,x3,x4,x5,x6,x7⟩;kernel_rfl
def f72_6_i:Ty7→Li×Int×Li×Li×Li×Li×Li:=fun (t21,t22,x3,x4,x5,x6,x7)=>(t21,t22,x3,x4,x5,x6,x7)
def f72_6(F:Nat)(kj5:Ty8→Rz):Ty7→Rz:=fun v=>loopN (fun k=>f72_5 F k kj5) F (f72_6_i v)
theorem f72_6_eq(F:Nat)(Rj5:St→Rz):∀ v,XAf72 F (bp Tryd.f72 122) (ef72j4 v) (kBlock 0 (kSeq (kc V72 Rj5 sp12) Kf4))=f72_6 F (Rj5∘ef72j5) v:=
 loop_cut (by kernel_rfl) (by kernel_rfl) ef72j4 ef72l1 _ f72_6_i (fun k=>f72_5 F k (Rj5∘ef72j5))
  (by rintro⟨t21,t22,x3,x4,x5,x6,x7⟩;kernel_rfl) (fun Rl1=>f72_5_eq F Rl1 Rj5)
def f72_7(F:Nat)(kj5:Ty8→Rz):Ty7→Rz:=f72_6 F kj5
theorem f72_7_eq(F:Nat)(Rj5:St→Rz):∀ v,XAf72 F (bp Tryd.f72 61) (ef72j4 v) (kSeq (kc V72 Rj5 sp12) Kf4)=f72_7 F (Rj5∘ef72j5) v:=fun v=>
 (block_in  (by kernel_rfl) _ _).trans (f72_6_eq F Rj5 v)
def f72_8(F:Nat)(kj5:Ty8→Rz):Ty6→Rz:=fun v=>f72_4 F (f72_7 F kj5) kj5 v
theorem f72_8_eq(F:Nat)(Rj5:St→Rz):∀ v,XAf72 F (bp Tryd.f72 30) (ef72j3 v) (kSeq (kc V72 Rj5 sp12) Kf4)=f72_8 F (Rj5∘ef72j5) v:=
 seq_cut (by kernel_rfl) (by kernel_rfl) ef72j3 ef72j4 _ (fun k=>f72_4 F k (Rj5∘ef72j5)) (f72_7 F (Rj5∘ef72j5))
  (fun Rj4=>f72_4_eq F Rj4 Rj5) (f72_7_eq F Rj5)
def f72_9(F:Nat)(kj6:Ty9→Rz)(kj7:Li×Li→Rz):Ty8→Rz:=fun (x1,x2,x3,x4)=>(kj6 ((0:Int),x1,x2,x3,x4))
theorem f72_9_eq(F:Nat)(Rj6 Rj7:St→Rz):∀ v,XAf72 F (bp Tryd.f72 124) (ef72j5 v) (kSeq (kc V72 Rj6 sp8) (kSeq (kc V72 Rj7 sp13) Kf4))=f72_9 F (Rj6∘ef72j6) (Rj7∘ef72j7) v:=by
 rintro⟨x1,x2,x3,x4⟩;kernel_rfl
def f72_10(F:Nat)(kl2:Ty9→Rz)(kj7:Li×Li→Rz):Ty9→Rz:=fun (t94,x2,x3,x4,x5)=>(cond (decide (t94 < (4:Int))) (cond ((decide (0≤t94))&&(decide (t94 < (8:Int)))) (cond ((decide (0≤t94))&&(decide (t94 < (4:Int)))) (cond ((decide (0≤t94))&&(decide (t94 < (8:Int)))) (cond ((decide (0≤(IntKind.i64.wrap (t94+(4:Int)))))&&(decide ((IntKind.i64.wrap (t94+(4:Int))) < (8:Int)))) (cond ((decide (0≤t94))&&(decide (t94 < (4:Int)))) (cond ((decide (0≤(IntKind.i64.wrap (t94+(4:Int)))))&&(decide ((IntKind.i64.wrap (t94+(4:Int))) < (8:Int)))) (kl2 ((IntKind.i64.wrap (t94+(1:Int))),((x2.set (Int.toNat t94) (IntKind.u32.wrap ((x2.getD (Int.toNat t94) 0)+(x4.getD (Int.toNat t94) 0)))).set (Int.toNat (IntKind.i64.wrap (t94+(4:Int)))) (IntKind.u32.wrap (((x2.set (Int.toNat t94) (IntKind.u32.wrap ((x2.getD (Int.toNat t94) 0)+(x4.getD (Int.toNat t94) 0)))).getD (Int.toNat (IntKind.i64.wrap (t94+(4:Int)))) 0)+(x5.getD (Int.toNat t94) 0)))),x3,x4,x5)) none) none) none) none) none) none) (kj7 (x2,x3)))
theorem f72_10_eq(F:Nat)(Rl2 Rj7:St→Rz):∀ v,XAf72 F (bp Tryd.f72 500) (ef72l2 v) (kSeq (kc V72 Rl2 sp8) (kBlock 2 (kSeq (kc V72 Rj7 sp13) Kf4)))=f72_10 F (Rl2∘ef72l2) (Rj7∘ef72j7) v:=by
 rintro⟨t94,x2,x3,x4,x5⟩;kernel_rfl
def f72_11_i:Ty9→Int×Li×Li×Li×Li:=fun (t94,x2,x3,x4,x5)=>(t94,x2,x3,x4,x5)
def f72_11(F:Nat)(kj7:Li×Li→Rz):Ty9→Rz:=fun v=>loopN (fun k=>f72_10 F k kj7) F (f72_11_i v)
theorem f72_11_eq(F:Nat)(Rj7:St→Rz):∀ v,XAf72 F (bp Tryd.f72 250) (ef72j6 v) (kBlock 2 (kSeq (kc V72 Rj7 sp13) Kf4))=f72_11 F (Rj7∘ef72j7) v:=
 loop_cut (by kernel_rfl) (by kernel_rfl) ef72j6 ef72l2 _ f72_11_i (fun k=>f72_10 F k (Rj7∘ef72j7))
  (by rintro⟨t94,x2,x3,x4,x5⟩;kernel_rfl) (fun Rl2=>f72_10_eq F Rl2 Rj7)
def f72_12(F:Nat)(kj7:Li×Li→Rz):Ty9→Rz:=f72_11 F kj7
theorem f72_12_eq(F:Nat)(Rj7:St→Rz):∀ v,XAf72 F (bp Tryd.f72 125) (ef72j6 v) (kSeq (kc V72 Rj7 sp13) Kf4)=f72_12 F (Rj7∘ef72j7) v:=fun v=>
 (block_in  (by kernel_rfl) _ _).trans (f72_11_eq F Rj7 v)
def f72_13(F:Nat)(kj7:Li×Li→Rz):Ty8→Rz:=fun v=>f72_9 F (f72_12 F kj7) kj7 v
theorem f72_13_eq(F:Nat)(Rj7:St→Rz):∀ v,XAf72 F (bp Tryd.f72 62) (ef72j5 v) (kSeq (kc V72 Rj7 sp13) Kf4)=f72_13 F (Rj7∘ef72j7) v:=
 seq_cut (by kernel_rfl) (by kernel_rfl) ef72j5 ef72j6 _ (fun k=>f72_9 F k (Rj7∘ef72j7)) (f72_12 F (Rj7∘ef72j7))
  (fun Rj6=>f72_9_eq F Rj6 Rj7) (f72_12_eq F Rj7)
def f72_14(F:Nat):Li×Li→Rz:=fun (x1,x2)=>(some ((.agg 8 (.rI .u32 x1)),[]))
theorem f72_14_eq(F:Nat):∀ v,XAf72 F (bp Tryd.f72 63) (ef72j7 v) Kf4=f72_14 F v:=by
 rintro⟨x1,x2⟩;kernel_rfl
def f72_15(F:Nat):Ty8→Rz:=fun v=>f72_13 F (f72_14 F) v
theorem f72_15_eq(F:Nat):∀ v,XAf72 F (bp Tryd.f72 31) (ef72j5 v) Kf4=f72_15 F v:=
 seq_cut (by kernel_rfl) (by kernel_rfl) ef72j5 ef72j7 _ (fun k=>f72_13 F k) (f72_14 F)
  (fun Rj7=>f72_13_eq F Rj7) (f72_14_eq F)
def f72_16(F:Nat):Ty6→Rz:=fun v=>f72_8 F (f72_15 F) v
theorem f72_16_eq(F:Nat):∀ v,XAf72 F (bp Tryd.f72 15) (ef72j3 v) Kf4=f72_16 F v:=
 seq_cut (by kernel_rfl) (by kernel_rfl) ef72j3 ef72j5 _ (fun k=>f72_8 F k) (f72_15 F)
  (fun Rj5=>f72_8_eq F Rj5) (f72_15_eq F)
def f72_17(F:Nat):Ty0→Rz:=fun v=>f72_3 F (f72_16 F) v
theorem f72_17_eq(F:Nat):∀ v,XAf72 F (bp Tryd.f72 7) (ef72j2 v) Kf4=f72_17 F v:=
 seq_cut (by kernel_rfl) (by kernel_rfl) ef72j2 ef72j3 _ (fun k=>f72_3 F k) (f72_16 F)
  (fun Rj3=>f72_3_eq F Rj3) (f72_16_eq F)
def f72_18(F:Nat):Ty0→Rz:=fun v=>f72_2 F (f72_17 F) v
theorem f72_18_eq(F:Nat):∀ v,XAf72 F (bp Tryd.f72 3) (ef72j1 v) Kf4=f72_18 F v:=
 seq_cut (by kernel_rfl) (by kernel_rfl) ef72j1 ef72j2 _ (fun k=>f72_2 F k) (f72_17 F)
  (fun Rj2=>f72_2_eq F Rj2) (f72_17_eq F)
def f72_19(F:Nat):Li×Li→Rz:=fun v=>f72_1 F (f72_18 F) v
theorem f72_19_eq(F:Nat):∀ v,XAf72 F (sub (bodyOf Tryd.f72) []) (ef72_a v) Kf4=f72_19 F v:=
 seq_cut (by kernel_rfl) (by kernel_rfl) ef72_a ef72j1 _ (fun k=>f72_1 F k) (f72_18 F)
  (fun Rj1=>f72_1_eq F Rj1) (f72_18_eq F)
def f72(F:Nat):Li×Li→Rz:=f72_19 F
theorem f72_body(F:Nat)(a0 a1:Li):abody V72 (Af72 F) Tryd.f72 [(.agg 8 (.rI .u32 a0)),(.vs (.rI .u8 a1) 0 1)] []=f72 F (a0,a1):=
 (abody_in (by kernel_rfl) (by kernel_rfl)).trans (f72_19_eq F (a0,a1))
def r72:CRun:=fun X H=>match X,H with
 | [(.agg 8 (.rI .u32 a0)),(.vs (.rI .u8 a1) 0 1)],[]=>some ((decide (a1.length=64)),(.agg 8 (.rI .u32 (Sha.comp a0 a1))),[])
 | _,_=>none
theorem mix_S3(x:Int)(i j k:Nat)(hi:i < 32∧0 < i)(hj:j < 32∧0 < j)(hk:k < 32∧0 < k):Sha.mix x i j k=Sha.S3 x i j k:=by
 unfold Sha.mix Sha.S3
 rw [i64w (by omega) (by omega),i64w (by omega) (by omega),i64w (by omega) (by omega),show(0-(i:Int)) = -(i:Int) by omega,show(0-(j:Int)) = -(j:Int) by omega,show(0-(k:Int)) = -(k:Int) by omega,
  Sha.rotl_neg _ i hi.1 hi.2,Sha.rotl_neg _ j hj.1 hj.2,Sha.rotl_neg _ k hk.1 hk.2]
theorem mixE(x:Int):Sha.mix x 6 11 25=Sha.S3 x 6 11 25:=mix_S3 x 6 11 25 (by decide) (by decide) (by decide)
theorem mixA(x:Int):Sha.mix x 2 13 22=Sha.S3 x 2 13 22:=mix_S3 x 2 13 22 (by decide) (by decide) (by decide)
theorem len8{l:List Int}(h:l.length=8):∃ a b c d e f g i,l=[a,b,c,d,e,f,g,i]:=by
 match l,h with
 | [a,b,c,d,e,f,g,i],_=>exact⟨a,b,c,d,e,f,g,i,rfl⟩
theorem s72(a0 a1:Li)(hp:((decide (a1.length=64)))=true)(h0:okV (.agg 8 (.rI .u32 a0)))(h1:okV (.vs (.rI .u8 a1) 0 1)):∃ F,f72 F (a0,a1)=some ((.agg 8 (.rI .u32 (Sha.comp a0 a1))),[]):=by
 refine⟨65,?_⟩
 simp only [f72,f72_19,f72_1,f72_18,f72_2,f72_17,f72_3,f72_16,f72_8,f72_15,f72_4,f72_7,f72_6,f72_6_i]
 rw [hp]
 simp only [cond_true]
 rw [List.take_of_length_le (show(List.drop 4 a0).length≤4 by rw [List.length_drop,(okR_rI h0).1];omega)]
 refine loopN_from (fun i=>(Sha.K,(i:Int),a0,[0,0,0,0,0,0,0,0],Sha.sched a1 64,(Sha.rnds (Sha.sched a1 64) (a0.take 4,a0.drop 4) i).1,(Sha.rnds (Sha.sched a1 64) (a0.take 4,a0.drop 4) i).2)) 64 (by rfl) (fun i hi k=>?_) (fun k=>?_) 65 (by omega)
 ·simp only [f72_5,dec_and]
  rw [cond_pos (by omega),cond_pos (by omega),cond_pos (by omega),i64w (x:=(i:Int)+1) (by omega) (by omega),mixE,mixA]
  rfl
 ·simp only [f72_5]
  rw [cond_neg (by omega)]
  simp only [f72_15,f72_13,f72_9,f72_12,f72_11,f72_11_i]
  unfold Sha.comp
  generalize Sha.rnds (Sha.sched a1 64) (a0.take 4,a0.drop 4) 64=t
  obtain⟨v,e⟩:=t
  obtain⟨b0,b1,b2,b3,b4,b5,b6,b7,rfl⟩:=len8 (okR_rI h0).1
  refine loopN_from (fun j=>((j:Int),(match j with
   | 0=>[b0,b1,b2,b3,b4,b5,b6,b7]
   | 1=>[Sha.add b0 (v.getD 0 0),b1,b2,b3,Sha.add b4 (e.getD 0 0),b5,b6,b7]
   | 2=>[Sha.add b0 (v.getD 0 0),Sha.add b1 (v.getD 1 0),b2,b3,Sha.add b4 (e.getD 0 0),Sha.add b5 (e.getD 1 0),b6,b7]
   | 3=>[Sha.add b0 (v.getD 0 0),Sha.add b1 (v.getD 1 0),Sha.add b2 (v.getD 2 0),b3,Sha.add b4 (e.getD 0 0),Sha.add b5 (e.getD 1 0),Sha.add b6 (e.getD 2 0),b7]
   | _=>[Sha.add b0 (v.getD 0 0),Sha.add b1 (v.getD 1 0),Sha.add b2 (v.getD 2 0),Sha.add b3 (v.getD 3 0),Sha.add b4 (e.getD 0 0),Sha.add b5 (e.getD 1 0),Sha.add b6 (e.getD 2 0),Sha.add b7 (e.getD 3 0)]),[0,0,0,0,0,0,0,0],v,e)) 4 (by rfl) (fun j hj k'=>?_) (fun k'=>?_) 65 (by omega)
  ·simp only [f72_10,dec_and]
   have hj':j=0∨j=1∨j=2∨j=3:=by omega
   rcases hj' with rfl | rfl | rfl | rfl <;> rfl
  ·simp only [f72_10]
   rw [cond_neg (by omega)]
   rfl
theorem c72:CallOk Tryd.prog G36 72 r72:=callOk_of mixed tys eV72 Tryd.func72 (by kernel_rfl) (c:=sub (bodyOf Tryd.f72) []) (by kernel_rfl) (by
 intro X H r H' h hX hH
 unfold r72 at h;split at h <;> try contradiction
 ·obtain⟨hp,rfl,rfl⟩:=inj3 h
  obtain⟨F,hF⟩:=s72 _ _ hp (hX _ hm0) (hX _ hm1)
  exact⟨Af72 F,(f72_body F _ _).trans hF⟩)
def lV60:List CEnt:=[]
def V60:Env:=mkEnv T36 G36 lV60
noncomputable abbrev Kf5:=kFin V60 none (Tryd.f60).results.toList
theorem eV60:EOk Tryd.prog V60:=eok_mk (by exact trivial)
def Af60(F:Nat):Cuts:={ F:=F,at_:=fun _=>none,join:=fun _=>none }
def ef60_a:Unit→St:=fun _=>⟨[],[],0,3,0⟩
def f60_1(F:Nat):Unit→Rz:=fun _=>(some ((.agg 73 (.segs (.cons 8 (.rI .u32 [(1779033703:Int),(3144134277:Int),(1013904242:Int),(2773480762:Int),(1359893119:Int),(2600822924:Int),(528734635:Int),(1541459225:Int)]) (.cons 64 (.rI .u8 (List.replicate 64 0)) (.cons 1 (.one (.int .u64 0)) .nil))))),[]))
theorem f60_1_eq(F:Nat):∀ v,aexec V60 (Af60 F) (sub (bodyOf Tryd.f60) []) (ef60_a v) Kf5=f60_1 F v:=by
 intro _;kernel_rfl
def f60(F:Nat):Unit→Rz:=f60_1 F
theorem f60_body(F:Nat) : abody V60 (Af60 F) Tryd.f60 [] []=f60 F ():=
 (abody_in (by kernel_rfl) (by kernel_rfl)).trans (f60_1_eq F ())
def r60:CRun:=fun X H=>match X,H with
 | [],[]=>some (true,(.agg 73 (.segs (.cons 8 (.rI .u32 Sha.iv) (.cons 64 (.rI .u8 (List.replicate 64 0)) (.cons 1 (.one (.int .u64 0)) .nil))))),[])
 | _,_=>none
theorem s60:∃ F,f60 F ()=some ((.agg 73 (.segs (.cons 8 (.rI .u32 Sha.iv) (.cons 64 (.rI .u8 (List.replicate 64 0)) (.cons 1 (.one (.int .u64 0)) .nil))))),[]):=⟨0,rfl⟩
theorem c60:CallOk Tryd.prog G36 60 r60:=callOk_of mixed tys eV60 Tryd.func60 (by kernel_rfl) (c:=sub (bodyOf Tryd.f60) []) (by kernel_rfl) (by
 intro X H r H' h hX hH
 unfold r60 at h;split at h <;> try contradiction
 ·obtain⟨hp,rfl,rfl⟩:=inj3 h
  obtain⟨F,hF⟩:=s60
  exact⟨Af60 F,(f60_body F).trans hF⟩)
def lV61:List CEnt:=[(72,[none,some 5],r72)]
def V61:Env:=mkEnv T36 G36 lV61
noncomputable abbrev Kf6:=kFin V61 none (Tryd.f61).results.toList
theorem eV61:EOk Tryd.prog V61:=eok_mk (by exact⟨c72,trivial⟩)
def Af61(F:Nat):Cuts:={ F:=F,at_:=fun n=>match n with | 1020=>some sp9 | _=>none,join:=fun n=>match n with | 1026=>some sp9 | 8003=>some sp13 | _=>none }
noncomputable abbrev XAf61(F:Nat){α:Type}:=@aexec α V61 (Af61 F)
def ef61_a:Ty10→St:=fun (a0_0,a0_1,a0_2,a1)=>⟨[(0,(.agg 73 (.segs (.cons 8 (.rI .u32 a0_0) (.cons 64 (.rI .u8 a0_1) (.cons 1 (.one (.int .u64 a0_2)) .nil)))))),(1,.str a1)],[],0,38,0⟩
def ef61j1:Ty11→St:=fun (t1,x2,x3,x4,x5,x6,x7)=>⟨[(1,.str t1),(2,.ptr 0 0 73 0 0 0 73),(4,.ptr 1 0 73 0 0 0 73)],[(0,(.cells 73 (.segs (.cons 8 (.rI .u32 x2) (.cons 64 (.rI .u8 x3) (.cons 1 (.one (.int .u64 x4)) .nil)))) true)),(1,(.cells 73 (.segs (.cons 8 (.rI .u32 x5) (.cons 64 (.rI .u8 x6) (.cons 1 (.one (.int .u64 x7)) .nil)))) true))],2,38,0⟩
def ef61l1:Ty11→St:=ef61j1
def ef61j2:Ty12→St:=fun (x1,x2,x3,x4,x5,x6)=>⟨[(2,.ptr 0 0 73 0 0 0 73),(4,.ptr 1 0 73 0 0 0 73)],[(0,(.cells 73 (.segs (.cons 8 (.rI .u32 x1) (.cons 64 (.rI .u8 x2) (.cons 1 (.one (.int .u64 x3)) .nil)))) true)),(1,(.cells 73 (.segs (.cons 8 (.rI .u32 x4) (.cons 64 (.rI .u8 x5) (.cons 1 (.one (.int .u64 x6)) .nil)))) true))],2,38,0⟩
def f61_1(F:Nat)(kj1:Ty11→Rz):Ty10→Rz:=fun (a0_0,a0_1,a0_2,a1)=>(kj1 (a1,a0_0,a0_1,a0_2,[0,0,0,0,0,0,0,0],(List.replicate 64 0),(0:Int)))
theorem f61_1_eq(F:Nat)(Rj1:St→Rz):∀ v,XAf61 F (bp Tryd.f61 2) (ef61_a v) (kSeq (kc V61 Rj1 sp9) Kf6)=f61_1 F (Rj1∘ef61j1) v:=by
 rintro⟨a0_0,a0_1,a0_2,a1⟩;kernel_rfl
def f61_2(F:Nat)(kl1:Ty11→Rz)(kj2:Ty12→Rz):Ty11→Rz:=fun (t1,x2,x3,x4,x5,x6,x7)=>(cond (!((t1:Li)==([]:Li))) (cond (((decide (0≤(IntKind.i64.wrap (Int.tmod x4 (64:Int)))))&&(decide ((IntKind.i64.wrap (Int.tmod x4 (64:Int)))≤(64:Int))))&&true) (cond (((decide (0≤(↑(min t1.length (64-(Int.toNat (IntKind.i64.wrap (Int.tmod x4 (64:Int)))))):Int)))&&(decide ((↑(min t1.length (64-(Int.toNat (IntKind.i64.wrap (Int.tmod x4 (64:Int)))))):Int)≤(↑t1.length:Int))))&&(decide ((↑t1.length:Int)≤(↑t1.length:Int)))) (cond ((IntKind.i64.wrap ((IntKind.i64.wrap (Int.tmod x4 (64:Int)))+(↑(min t1.length (64-(Int.toNat (IntKind.i64.wrap (Int.tmod x4 (64:Int)))))):Int)))==(64:Int)) (cond (decide (((x3.take (Int.toNat (IntKind.i64.wrap (Int.tmod x4 (64:Int))))++(t1.take (min t1.length (64-(Int.toNat (IntKind.i64.wrap (Int.tmod x4 (64:Int)))))))++x3.drop ((Int.toNat (IntKind.i64.wrap (Int.tmod x4 (64:Int))))+(min t1.length (64-(Int.toNat (IntKind.i64.wrap (Int.tmod x4 (64:Int)))))))).take 64).length=64)) (kl1 (((t1.take t1.length).drop (Int.toNat (↑(min t1.length (64-(Int.toNat (IntKind.i64.wrap (Int.tmod x4 (64:Int)))))):Int))),(Sha.comp x2 ((x3.take (Int.toNat (IntKind.i64.wrap (Int.tmod x4 (64:Int))))++(t1.take (min t1.length (64-(Int.toNat (IntKind.i64.wrap (Int.tmod x4 (64:Int)))))))++x3.drop ((Int.toNat (IntKind.i64.wrap (Int.tmod x4 (64:Int))))+(min t1.length (64-(Int.toNat (IntKind.i64.wrap (Int.tmod x4 (64:Int)))))))).take 64)),(x3.take (Int.toNat (IntKind.i64.wrap (Int.tmod x4 (64:Int))))++(t1.take (min t1.length (64-(Int.toNat (IntKind.i64.wrap (Int.tmod x4 (64:Int)))))))++x3.drop ((Int.toNat (IntKind.i64.wrap (Int.tmod x4 (64:Int))))+(min t1.length (64-(Int.toNat (IntKind.i64.wrap (Int.tmod x4 (64:Int)))))))),(IntKind.u64.wrap (x4+(IntKind.u64.wrap (↑(min t1.length (64-(Int.toNat (IntKind.i64.wrap (Int.tmod x4 (64:Int)))))):Int)))),x5,x6,x7)) none) (kl1 (((t1.take t1.length).drop (Int.toNat (↑(min t1.length (64-(Int.toNat (IntKind.i64.wrap (Int.tmod x4 (64:Int)))))):Int))),x2,(x3.take (Int.toNat (IntKind.i64.wrap (Int.tmod x4 (64:Int))))++(t1.take (min t1.length (64-(Int.toNat (IntKind.i64.wrap (Int.tmod x4 (64:Int)))))))++x3.drop ((Int.toNat (IntKind.i64.wrap (Int.tmod x4 (64:Int))))+(min t1.length (64-(Int.toNat (IntKind.i64.wrap (Int.tmod x4 (64:Int)))))))),(IntKind.u64.wrap (x4+(IntKind.u64.wrap (↑(min t1.length (64-(Int.toNat (IntKind.i64.wrap (Int.tmod x4 (64:Int)))))):Int)))),x5,x6,x7))) none) none) (kj2 (x2,x3,x4,x5,x6,x7)))
theorem f61_2_eq(F:Nat)(Rl1 Rj2:St→Rz):∀ v,XAf61 F (bp Tryd.f61 24) (ef61l1 v) (kSeq (kc V61 Rl1 sp9) (kBlock 0 (kSeq (kc V61 Rj2 sp13) Kf6)))=f61_2 F (Rl1∘ef61l1) (Rj2∘ef61j2) v:=by
 rintro⟨t1,x2,x3,x4,x5,x6,x7⟩;kernel_rfl
def f61_3_i:Ty11→Li×Li×Li×Int×Li×Li×Int:=fun (t1,x2,x3,x4,x5,x6,x7)=>(t1,x2,x3,x4,x5,x6,x7)
def f61_3(F:Nat)(kj2:Ty12→Rz):Ty11→Rz:=fun v=>loopN (fun k=>f61_2 F k kj2) F (f61_3_i v)
theorem f61_3_eq(F:Nat)(Rj2:St→Rz):∀ v,XAf61 F (bp Tryd.f61 12) (ef61j1 v) (kBlock 0 (kSeq (kc V61 Rj2 sp13) Kf6))=f61_3 F (Rj2∘ef61j2) v:=
 loop_cut (by kernel_rfl) (by kernel_rfl) ef61j1 ef61l1 _ f61_3_i (fun k=>f61_2 F k (Rj2∘ef61j2))
  (by rintro⟨t1,x2,x3,x4,x5,x6,x7⟩;kernel_rfl) (fun Rl1=>f61_2_eq F Rl1 Rj2)
def f61_4(F:Nat)(kj2:Ty12→Rz):Ty11→Rz:=f61_3 F kj2
theorem f61_4_eq(F:Nat)(Rj2:St→Rz):∀ v,XAf61 F (bp Tryd.f61 6) (ef61j1 v) (kSeq (kc V61 Rj2 sp13) Kf6)=f61_4 F (Rj2∘ef61j2) v:=fun v=>
 (block_in  (by kernel_rfl) _ _).trans (f61_3_eq F Rj2 v)
def f61_5(F:Nat):Ty12→Rz:=fun (x1,x2,x3,x4,x5,x6)=>(some ((.agg 73 (.segs (.cons 8 (.rI .u32 x1) (.cons 64 (.rI .u8 x2) (.cons 1 (.one (.int .u64 x3)) .nil))))),[]))
theorem f61_5_eq(F:Nat):∀ v,XAf61 F (bp Tryd.f61 7) (ef61j2 v) Kf6=f61_5 F v:=by
 rintro⟨x1,x2,x3,x4,x5,x6⟩;kernel_rfl
def f61_6(F:Nat):Ty11→Rz:=fun v=>f61_4 F (f61_5 F) v
theorem f61_6_eq(F:Nat):∀ v,XAf61 F (bp Tryd.f61 3) (ef61j1 v) Kf6=f61_6 F v:=
 seq_cut (by kernel_rfl) (by kernel_rfl) ef61j1 ef61j2 _ (fun k=>f61_4 F k) (f61_5 F)
  (fun Rj2=>f61_4_eq F Rj2) (f61_5_eq F)
def f61_7(F:Nat):Ty10→Rz:=fun v=>f61_1 F (f61_6 F) v
theorem f61_7_eq(F:Nat):∀ v,XAf61 F (sub (bodyOf Tryd.f61) []) (ef61_a v) Kf6=f61_7 F v:=
 seq_cut (by kernel_rfl) (by kernel_rfl) ef61_a ef61j1 _ (fun k=>f61_1 F k) (f61_6 F)
  (fun Rj1=>f61_1_eq F Rj1) (f61_6_eq F)
def f61(F:Nat):Ty10→Rz:=f61_7 F
theorem f61_body(F:Nat)(a0_0 a0_1:Li)(a0_2:Int)(a1:Li):abody V61 (Af61 F) Tryd.f61 [(.agg 73 (.segs (.cons 8 (.rI .u32 a0_0) (.cons 64 (.rI .u8 a0_1) (.cons 1 (.one (.int .u64 a0_2)) .nil))))),.str a1] []=f61 F (a0_0,a0_1,a0_2,a1):=
 (abody_in (by kernel_rfl) (by kernel_rfl)).trans (f61_7_eq F (a0_0,a0_1,a0_2,a1))
def r61:CRun:=fun X H=>match X,H with
 | [(.agg 73 (.segs (.cons 8 (.rI .u32 a0_0) (.cons 64 (.rI .u8 a0_1) (.cons 1 (.one (.int .u64 a0_2)) .nil))))),.str a1],[]=>some (true,(.agg 73 (.segs (.cons 8 (.rI .u32 (Sha.addS (a0_0,a0_1,a0_2) a1).1) (.cons 64 (.rI .u8 (Sha.addS (a0_0,a0_1,a0_2) a1).2.1) (.cons 1 (.one (.int .u64 (Sha.addS (a0_0,a0_1,a0_2) a1).2.2)) .nil))))),[])
 | _,_=>none
theorem ok_str{a b:List Int}{n:Int}(h:okV (.agg 73 (.segs (.cons 8 (.rI .u32 a) (.cons 64 (.rI .u8 b) (.cons 1 (.one (.int .u64 n)) .nil)))))):a.length=8∧b.length=64∧0≤n∧n≤18446744073709551615:=by
 obtain⟨h1,_,h3⟩:=h
 simp only [AV.wf,AVs.wfS,AV.size,true_and,and_true] at h1
 have:=h3 72 (by omega)
 exact⟨h1.1,h1.2.1,this⟩
theorem s61(a0_0 a0_1:Li)(a0_2:Int)(a1:Li)(h0:okV (.agg 73 (.segs (.cons 8 (.rI .u32 a0_0) (.cons 64 (.rI .u8 a0_1) (.cons 1 (.one (.int .u64 a0_2)) .nil))))))(h1:okV (.str a1)):∃ F,f61 F (a0_0,a0_1,a0_2,a1)=some ((.agg 73 (.segs (.cons 8 (.rI .u32 (Sha.addS (a0_0,a0_1,a0_2) a1).1) (.cons 64 (.rI .u8 (Sha.addS (a0_0,a0_1,a0_2) a1).2.1) (.cons 1 (.one (.int .u64 (Sha.addS (a0_0,a0_1,a0_2) a1).2.2)) .nil))))),[]):=by
 obtain⟨_,hb,hn0,hn1⟩:=ok_str h0
 refine⟨a1.length+1,?_⟩
 simp only [f61,f61_7,f61_1,f61_6,f61_4,f61_3,f61_3_i]
 generalize hR:Sha.addS (a0_0,a0_1,a0_2) a1=R
 refine loopN_ind (fun m s=>s.1.length=m∧m < 4611686018427387904∧s.2.2.1.length=64∧0≤s.2.2.2.1∧s.2.2.2.1≤18446744073709551615∧Sha.addS (s.2.1,s.2.2.1,s.2.2.2.1) s.1=R) ?_ _ a1.length _ (by omega) ⟨rfl,h1.1,hb,hn0,hn1,hR⟩
 rintro m ⟨t1,x2,x3,x4,x5,x6,x7⟩ k ⟨g1,gm,g2,g3,g4,g5⟩ hk
 simp only at g1 g2 g3 g4 g5 hk
 simp only [f61_2]
 by_cases ht:t1=[]
 ·subst ht
  rw [Sha.addS_nil] at g5
  subst g5
  rfl
 ·have hne:(!(t1==[]))=true:=by simp [ht]
  have hpos:0 < t1.length:=List.length_pos_iff.mpr ht
  rw [hne]
  simp only [cond_true]
  have hat:IntKind.i64.wrap (Int.tmod x4 (64:Int))=((x4%64).toNat:Int):=by
   rw [Int.tmod_eq_emod_of_nonneg g3,i64w (by omega) (by omega)];omega
  simp only [hat,Int.toNat_natCast,Bool.and_true,dec_and,int_beq]
  generalize hA:(x4%64).toNat=A
  generalize hK:min t1.length (64-A)=k0
  rw [cond_pos (by omega),cond_pos (by omega),i64w (x:=(A:Int)+(k0:Int)) (by omega) (by omega),List.take_of_length_le (Nat.le_refl t1.length)]
  have hch:=Sha.addS_chunk (t1.take k0) x2 x3 x4 g2 g3 g4 (by rw [List.length_take];omega)
  have hlen:(t1.take k0).length=k0:=by rw [List.length_take];omega
  rw [hA,hlen] at hch
  have hsplit:Sha.addS (x2,x3,x4) t1=Sha.addS (Sha.addS (x2,x3,x4) (t1.take k0)) (t1.drop k0):=by
   rw [← Sha.addS_append,List.take_append_drop]
  rw [hch] at hsplit
  have hw:IntKind.u64.wrap (x4+IntKind.u64.wrap (k0:Int))=IntKind.u64.wrap (x4+(k0:Int)):=by simp only [u64mod];omega
  have hx3:(x3.take A++t1.take k0++x3.drop (A+k0)).length=64:=by simp [g2];omega
  by_cases h64:A+k0=64
  ·rw [cond_pos (show((A:Int)+(k0:Int)=64) by omega),List.take_of_length_le (l:=(x3.take A++t1.take k0++x3.drop (A+k0))) (by rw [hx3];exact Nat.le_refl _),cond_pos hx3]
   rw [if_pos h64] at hsplit
   refine hk (m-k0) _ (by omega) ⟨by simp only [];rw [List.length_drop];omega,by omega,hx3,?_,?_,?_⟩
   ·simp only [u64mod];omega
   ·simp only [u64mod];omega
   ·simp only [];rw [hw,← hsplit];exact g5
  ·rw [cond_neg (show ¬ ((A:Int)+(k0:Int)=64) by omega)]
   rw [if_neg h64] at hsplit
   refine hk (m-k0) _ (by omega) ⟨by simp only [];rw [List.length_drop];omega,by omega,hx3,?_,?_,?_⟩
   ·simp only [u64mod];omega
   ·simp only [u64mod];omega
   ·simp only [];rw [hw,← hsplit];exact g5
theorem c61:CallOk Tryd.prog G36 61 r61:=callOk_of mixed tys eV61 Tryd.func61 (by kernel_rfl) (c:=sub (bodyOf Tryd.f61) []) (by kernel_rfl) (by
 intro X H r H' h hX hH
 unfold r61 at h;split at h <;> try contradiction
 ·obtain⟨hp,rfl,rfl⟩:=inj3 h
  obtain⟨F,hF⟩:=s61 _ _ _ _ (hX _ hm0) (hX _ hm1)
  exact⟨Af61 F,(f61_body F _ _ _ _).trans hF⟩)
def lV62:List CEnt:=[(61,[none,none],r61)]
def V62:Env:=mkEnv T36 G36 lV62
noncomputable abbrev Kf7:=kFin V62 none (Tryd.f62).results.toList
theorem eV62:EOk Tryd.prog V62:=eok_mk (by exact⟨c61,trivial⟩)
def Af62(F:Nat):Cuts:={ F:=F,at_:=fun n=>match n with | 3008=>some sp14 | 6012=>some sp15 | 13012=>some sp16 | _=>none,join:=fun n=>match n with | 1056=>some sp17 | 2054=>some sp18 | 3052=>some sp14 | 5041=>some sp14 | 6014=>some sp15 | 10024=>some sp9 | 11022=>some sp17 | 12020=>some sp19 | 13014=>some sp16 | 17003=>some sp20 | _=>none }
noncomputable abbrev XAf62(F:Nat){α:Type}:=@aexec α V62 (Af62 F)
def ef62_a:Ty13→St:=fun (a0_0,a0_1,a0_2)=>⟨[(0,(.agg 73 (.segs (.cons 8 (.rI .u32 a0_0) (.cons 64 (.rI .u8 a0_1) (.cons 1 (.one (.int .u64 a0_2)) .nil))))))],[],0,58,0⟩
def ef62j1:Ty10→St:=fun (x1,x2,x3,x4)=>⟨[(1,.ptr 0 0 73 0 0 0 73),(2,.ptr 1 0 32 0 0 0 32)],[(0,(.cells 73 (.segs (.cons 8 (.rI .u32 x1) (.cons 64 (.rI .u8 x2) (.cons 1 (.one (.int .u64 x3)) .nil)))) true)),(1,(.cells 32 (.rI .u8 x4) true))],2,58,0⟩
def ef62j2:Ty14→St:=fun (t3,x2,x3,x4,x5)=>⟨[(1,.ptr 0 0 73 0 0 0 73),(2,.ptr 1 0 32 0 0 0 32),(3,.int .u64 t3)],[(0,(.cells 73 (.segs (.cons 8 (.rI .u32 x2) (.cons 64 (.rI .u8 x3) (.cons 1 (.one (.int .u64 x4)) .nil)))) true)),(1,(.cells 32 (.rI .u8 x5) true))],2,58,0⟩
def ef62j3:Ty15→St:=fun (t3,x2,x3,x4,x5,x6)=>⟨[(1,.ptr 0 0 73 0 0 0 73),(2,.ptr 1 0 32 0 0 0 32),(3,.int .u64 t3),(4,.own 2 0 1)],[(0,(.cells 73 (.segs (.cons 8 (.rI .u32 x2) (.cons 64 (.rI .u8 x3) (.cons 1 (.one (.int .u64 x4)) .nil)))) true)),(1,(.cells 32 (.rI .u8 x5) true)),(2,(.cells x6.length (.rI .u8 x6) true))],3,58,0⟩
def ef62l1:Ty15→St:=ef62j3
def ef62j4:Ty15→St:=ef62j3
def ef62j5:Ty16→St:=fun (t3,t23,x3,x4,x5,x6,x7)=>⟨[(1,.ptr 0 0 73 0 0 0 73),(2,.ptr 1 0 32 0 0 0 32),(3,.int .u64 t3),(4,.own 2 0 1),(23,.int .i64 t23)],[(0,(.cells 73 (.segs (.cons 8 (.rI .u32 x3) (.cons 64 (.rI .u8 x4) (.cons 1 (.one (.int .u64 x5)) .nil)))) true)),(1,(.cells 32 (.rI .u8 x6) true)),(2,(.cells x7.length (.rI .u8 x7) true))],3,58,0⟩
def ef62l2:Ty16→St:=ef62j5
def ef62j6:Ty17→St:=fun (x1,x2,x3,x4,x5)=>⟨[(1,.ptr 0 0 73 0 0 0 73),(2,.ptr 1 0 32 0 0 0 32),(4,.own 2 0 1)],[(0,(.cells 73 (.segs (.cons 8 (.rI .u32 x1) (.cons 64 (.rI .u8 x2) (.cons 1 (.one (.int .u64 x3)) .nil)))) true)),(1,(.cells 32 (.rI .u8 x4) true)),(2,(.cells x5.length (.rI .u8 x5) true))],3,58,0⟩
def ef62j7:Ty10→St:=ef62j1
def ef62j8:Ty17→St:=fun (x1,x2,x3,x4,x5)=>⟨[(1,.ptr 0 0 73 0 0 0 73),(2,.ptr 1 0 32 0 0 0 32),(6,.ptr 2 0 32 0 0 0 32)],[(0,(.cells 73 (.segs (.cons 8 (.rI .u32 x1) (.cons 64 (.rI .u8 x2) (.cons 1 (.one (.int .u64 x3)) .nil)))) true)),(1,(.cells 32 (.rI .u8 x4) true)),(2,(.cells 32 (.rI .u8 x5) true))],3,58,0⟩
def ef62j9:Ty15→St:=fun (t40,x2,x3,x4,x5,x6)=>⟨[(1,.ptr 0 0 73 0 0 0 73),(2,.ptr 1 0 32 0 0 0 32),(6,.ptr 2 0 32 0 0 0 32),(40,.int .i64 t40)],[(0,(.cells 73 (.segs (.cons 8 (.rI .u32 x2) (.cons 64 (.rI .u8 x3) (.cons 1 (.one (.int .u64 x4)) .nil)))) true)),(1,(.cells 32 (.rI .u8 x5) true)),(2,(.cells 32 (.rI .u8 x6) true))],3,58,0⟩
def ef62l3:Ty15→St:=ef62j9
def ef62j10:Li×Li→St:=fun (x1,x2)=>⟨[(2,.ptr 0 0 32 0 0 0 32),(6,.ptr 1 0 32 0 0 0 32)],[(0,(.cells 32 (.rI .u8 x1) true)),(1,(.cells 32 (.rI .u8 x2) true))],2,58,0⟩
def f62_1(F:Nat)(kj1:Ty10→Rz):Ty13→Rz:=fun (a0_0,a0_1,a0_2)=>(kj1 (a0_0,a0_1,a0_2,(List.replicate 32 0)))
theorem f62_1_eq(F:Nat)(Rj1:St→Rz):∀ v,XAf62 F (bp Tryd.f62 2) (ef62_a v) (kSeq (kc V62 Rj1 sp17) Kf7)=f62_1 F (Rj1∘ef62j1) v:=by
 rintro⟨a0_0,a0_1,a0_2⟩;kernel_rfl
def f62_2(F:Nat)(kj2:Ty14→Rz):Ty10→Rz:=fun (x1,x2,x3,x4)=>(kj2 ((IntKind.u64.wrap ((8:Int)*x3)),x1,x2,x3,x4))
theorem f62_2_eq(F:Nat)(Rj2:St→Rz):∀ v,XAf62 F (bp Tryd.f62 6) (ef62j1 v) (kSeq (kc V62 Rj2 sp18) Kf7)=f62_2 F (Rj2∘ef62j2) v:=by
 rintro⟨x1,x2,x3,x4⟩;kernel_rfl
def f62_3(F:Nat)(kj3:Ty15→Rz):Ty14→Rz:=fun (t3,x2,x3,x4,x5)=>(kj3 (t3,x2,x3,x4,x5,[(128:Int)]))
theorem f62_3_eq(F:Nat)(Rj3:St→Rz):∀ v,XAf62 F (bp Tryd.f62 14) (ef62j2 v) (kSeq (kc V62 Rj3 sp14) Kf7)=f62_3 F (Rj3∘ef62j3) v:=by
 rintro⟨t3,x2,x3,x4,x5⟩;kernel_rfl
def f62_4(F:Nat)(kl1 kj4:Ty15→Rz):Ty15→Rz:=fun (t3,x2,x3,x4,x5,x6)=>(cond ((Int.tmod (IntKind.i64.wrap ((IntKind.i64.wrap x4)+(↑x6.length:Int))) (64:Int)) != (56:Int)) (cond (decide ((x6.length+1) < 1073741824)) (kl1 (t3,x2,x3,x4,x5,(x6++[(0:Int)]))) none) (kj4 (t3,x2,x3,x4,x5,x6)))
theorem f62_4_eq(F:Nat)(Rl1 Rj4:St→Rz):∀ v,XAf62 F (bp Tryd.f62 120) (ef62l1 v) (kSeq (kc V62 Rl1 sp14) (kBlock 0 (kSeq (kc V62 Rj4 sp14) Kf7)))=f62_4 F (Rl1∘ef62l1) (Rj4∘ef62j4) v:=by
 rintro⟨t3,x2,x3,x4,x5,x6⟩;kernel_rfl
def f62_5_i:Ty15→Int×Li×Li×Int×Li×Li:=fun (t3,x2,x3,x4,x5,x6)=>(t3,x2,x3,x4,x5,x6)
def f62_5(F:Nat)(kj4:Ty15→Rz):Ty15→Rz:=fun v=>loopN (fun k=>f62_4 F k kj4) F (f62_5_i v)
theorem f62_5_eq(F:Nat)(Rj4:St→Rz):∀ v,XAf62 F (bp Tryd.f62 60) (ef62j3 v) (kBlock 0 (kSeq (kc V62 Rj4 sp14) Kf7))=f62_5 F (Rj4∘ef62j4) v:=
 loop_cut (by kernel_rfl) (by kernel_rfl) ef62j3 ef62l1 _ f62_5_i (fun k=>f62_4 F k (Rj4∘ef62j4))
  (by rintro⟨t3,x2,x3,x4,x5,x6⟩;kernel_rfl) (fun Rl1=>f62_4_eq F Rl1 Rj4)
def f62_6(F:Nat)(kj4:Ty15→Rz):Ty15→Rz:=f62_5 F kj4
theorem f62_6_eq(F:Nat)(Rj4:St→Rz):∀ v,XAf62 F (bp Tryd.f62 30) (ef62j3 v) (kSeq (kc V62 Rj4 sp14) Kf7)=f62_6 F (Rj4∘ef62j4) v:=fun v=>
 (block_in  (by kernel_rfl) _ _).trans (f62_5_eq F Rj4 v)
def f62_7(F:Nat)(kj5:Ty16→Rz)(kj6:Ty17→Rz):Ty15→Rz:=fun (t3,x2,x3,x4,x5,x6)=>(kj5 (t3,(0:Int),x2,x3,x4,x5,x6))
theorem f62_7_eq(F:Nat)(Rj5 Rj6:St→Rz):∀ v,XAf62 F (bp Tryd.f62 124) (ef62j4 v) (kSeq (kc V62 Rj5 sp15) (kSeq (kc V62 Rj6 sp9) Kf7))=f62_7 F (Rj5∘ef62j5) (Rj6∘ef62j6) v:=by
 rintro⟨t3,x2,x3,x4,x5,x6⟩;kernel_rfl
def f62_8(F:Nat)(kl2:Ty16→Rz)(kj6:Ty17→Rz):Ty16→Rz:=fun (t3,t23,x3,x4,x5,x6,x7)=>(cond (decide (t23 < (8:Int))) (cond (decide (0≤(IntKind.i64.wrap ((56:Int)-(IntKind.i64.wrap ((8:Int)*t23)))))) (cond (decide ((x7.length+1) < 1073741824)) (kl2 (t3,(IntKind.i64.wrap (t23+(1:Int))),x3,x4,x5,x6,(x7++[(IntKind.u8.wrap (Int.fdiv t3 (2^(min (Int.toNat (IntKind.i64.wrap ((56:Int)-(IntKind.i64.wrap ((8:Int)*t23))))) 64))))]))) none) none) (kj6 (x3,x4,x5,x6,x7)))
theorem f62_8_eq(F:Nat)(Rl2 Rj6:St→Rz):∀ v,XAf62 F (bp Tryd.f62 500) (ef62l2 v) (kSeq (kc V62 Rl2 sp15) (kBlock 2 (kSeq (kc V62 Rj6 sp9) Kf7)))=f62_8 F (Rl2∘ef62l2) (Rj6∘ef62j6) v:=by
 rintro⟨t3,t23,x3,x4,x5,x6,x7⟩;kernel_rfl
def f62_9_i:Ty16→Int×Int×Li×Li×Int×Li×Li:=fun (t3,t23,x3,x4,x5,x6,x7)=>(t3,t23,x3,x4,x5,x6,x7)
def f62_9(F:Nat)(kj6:Ty17→Rz):Ty16→Rz:=fun v=>loopN (fun k=>f62_8 F k kj6) F (f62_9_i v)
theorem f62_9_eq(F:Nat)(Rj6:St→Rz):∀ v,XAf62 F (bp Tryd.f62 250) (ef62j5 v) (kBlock 2 (kSeq (kc V62 Rj6 sp9) Kf7))=f62_9 F (Rj6∘ef62j6) v:=
 loop_cut (by kernel_rfl) (by kernel_rfl) ef62j5 ef62l2 _ f62_9_i (fun k=>f62_8 F k (Rj6∘ef62j6))
  (by rintro⟨t3,t23,x3,x4,x5,x6,x7⟩;kernel_rfl) (fun Rl2=>f62_8_eq F Rl2 Rj6)
def f62_10(F:Nat)(kj6:Ty17→Rz):Ty16→Rz:=f62_9 F kj6
theorem f62_10_eq(F:Nat)(Rj6:St→Rz):∀ v,XAf62 F (bp Tryd.f62 125) (ef62j5 v) (kSeq (kc V62 Rj6 sp9) Kf7)=f62_10 F (Rj6∘ef62j6) v:=fun v=>
 (block_in  (by kernel_rfl) _ _).trans (f62_9_eq F Rj6 v)
def f62_11(F:Nat)(kj6:Ty17→Rz):Ty15→Rz:=fun v=>f62_7 F (f62_10 F kj6) kj6 v
theorem f62_11_eq(F:Nat)(Rj6:St→Rz):∀ v,XAf62 F (bp Tryd.f62 62) (ef62j4 v) (kSeq (kc V62 Rj6 sp9) Kf7)=f62_11 F (Rj6∘ef62j6) v:=
 seq_cut (by kernel_rfl) (by kernel_rfl) ef62j4 ef62j5 _ (fun k=>f62_7 F k (Rj6∘ef62j6)) (f62_10 F (Rj6∘ef62j6))
  (fun Rj5=>f62_7_eq F Rj5 Rj6) (f62_10_eq F Rj6)
def f62_12(F:Nat)(kj7:Ty10→Rz):Ty17→Rz:=fun (x1,x2,x3,x4,x5)=>(kj7 ((Sha.addS (x1,x2,x3) x5).1,(Sha.addS (x1,x2,x3) x5).2.1,(Sha.addS (x1,x2,x3) x5).2.2,x4))
theorem f62_12_eq(F:Nat)(Rj7:St→Rz):∀ v,XAf62 F (bp Tryd.f62 126) (ef62j6 v) (kSeq (kc V62 Rj7 sp17) Kf7)=f62_12 F (Rj7∘ef62j7) v:=by
 rintro⟨x1,x2,x3,x4,x5⟩;kernel_rfl
def f62_13(F:Nat)(kj8:Ty17→Rz):Ty10→Rz:=fun (x1,x2,x3,x4)=>(kj8 (x1,x2,x3,x4,(List.replicate 32 0)))
theorem f62_13_eq(F:Nat)(Rj8:St→Rz):∀ v,XAf62 F (bp Tryd.f62 254) (ef62j7 v) (kSeq (kc V62 Rj8 sp19) Kf7)=f62_13 F (Rj8∘ef62j8) v:=by
 rintro⟨x1,x2,x3,x4⟩;kernel_rfl
def f62_14(F:Nat)(kj9:Ty15→Rz)(kj10:Li×Li→Rz):Ty17→Rz:=fun (x1,x2,x3,x4,x5)=>(kj9 ((0:Int),x1,x2,x3,x4,x5))
theorem f62_14_eq(F:Nat)(Rj9 Rj10:St→Rz):∀ v,XAf62 F (bp Tryd.f62 1020) (ef62j8 v) (kSeq (kc V62 Rj9 sp16) (kSeq (kc V62 Rj10 sp20) Kf7))=f62_14 F (Rj9∘ef62j9) (Rj10∘ef62j10) v:=by
 rintro⟨x1,x2,x3,x4,x5⟩;kernel_rfl
def f62_15(F:Nat)(kl3:Ty15→Rz)(kj10:Li×Li→Rz):Ty15→Rz:=fun (t40,x2,x3,x4,x5,x6)=>(cond (decide (t40 < (32:Int))) (cond ((decide (0≤(IntKind.i64.wrap (Int.tdiv t40 (4:Int)))))&&(decide ((IntKind.i64.wrap (Int.tdiv t40 (4:Int))) < (8:Int)))) (cond (decide (0≤(IntKind.i64.wrap ((24:Int)-(IntKind.i64.wrap ((8:Int)*(Int.tmod t40 (4:Int)))))))) (cond ((decide (0≤t40))&&(decide (t40 < (32:Int)))) (kl3 ((IntKind.i64.wrap (t40+(1:Int))),x2,x3,x4,x5,(x6.set (Int.toNat t40) (IntKind.u8.wrap (Int.fdiv (x2.getD (Int.toNat (IntKind.i64.wrap (Int.tdiv t40 (4:Int)))) 0) (2^(min (Int.toNat (IntKind.i64.wrap ((24:Int)-(IntKind.i64.wrap ((8:Int)*(Int.tmod t40 (4:Int))))))) 32))))))) none) none) none) (kj10 (x5,x6)))
theorem f62_15_eq(F:Nat)(Rl3 Rj10:St→Rz):∀ v,XAf62 F (bp Tryd.f62 4084) (ef62l3 v) (kSeq (kc V62 Rl3 sp16) (kBlock 4 (kSeq (kc V62 Rj10 sp20) Kf7)))=f62_15 F (Rl3∘ef62l3) (Rj10∘ef62j10) v:=by
 rintro⟨t40,x2,x3,x4,x5,x6⟩;kernel_rfl
def f62_16_i:Ty15→Int×Li×Li×Int×Li×Li:=fun (t40,x2,x3,x4,x5,x6)=>(t40,x2,x3,x4,x5,x6)
def f62_16(F:Nat)(kj10:Li×Li→Rz):Ty15→Rz:=fun v=>loopN (fun k=>f62_15 F k kj10) F (f62_16_i v)
theorem f62_16_eq(F:Nat)(Rj10:St→Rz):∀ v,XAf62 F (bp Tryd.f62 2042) (ef62j9 v) (kBlock 4 (kSeq (kc V62 Rj10 sp20) Kf7))=f62_16 F (Rj10∘ef62j10) v:=
 loop_cut (by kernel_rfl) (by kernel_rfl) ef62j9 ef62l3 _ f62_16_i (fun k=>f62_15 F k (Rj10∘ef62j10))
  (by rintro⟨t40,x2,x3,x4,x5,x6⟩;kernel_rfl) (fun Rl3=>f62_15_eq F Rl3 Rj10)
def f62_17(F:Nat)(kj10:Li×Li→Rz):Ty15→Rz:=f62_16 F kj10
theorem f62_17_eq(F:Nat)(Rj10:St→Rz):∀ v,XAf62 F (bp Tryd.f62 1021) (ef62j9 v) (kSeq (kc V62 Rj10 sp20) Kf7)=f62_17 F (Rj10∘ef62j10) v:=fun v=>
 (block_in  (by kernel_rfl) _ _).trans (f62_16_eq F Rj10 v)
def f62_18(F:Nat)(kj10:Li×Li→Rz):Ty17→Rz:=fun v=>f62_14 F (f62_17 F kj10) kj10 v
theorem f62_18_eq(F:Nat)(Rj10:St→Rz):∀ v,XAf62 F (bp Tryd.f62 510) (ef62j8 v) (kSeq (kc V62 Rj10 sp20) Kf7)=f62_18 F (Rj10∘ef62j10) v:=
 seq_cut (by kernel_rfl) (by kernel_rfl) ef62j8 ef62j9 _ (fun k=>f62_14 F k (Rj10∘ef62j10)) (f62_17 F (Rj10∘ef62j10))
  (fun Rj9=>f62_14_eq F Rj9 Rj10) (f62_17_eq F Rj10)
def f62_19(F:Nat):Li×Li→Rz:=fun (x1,x2)=>(some ((.agg 32 (.rI .u8 x2)),[]))
theorem f62_19_eq(F:Nat):∀ v,XAf62 F (bp Tryd.f62 511) (ef62j10 v) Kf7=f62_19 F v:=by
 rintro⟨x1,x2⟩;kernel_rfl
def f62_20(F:Nat):Ty17→Rz:=fun v=>f62_18 F (f62_19 F) v
theorem f62_20_eq(F:Nat):∀ v,XAf62 F (bp Tryd.f62 255) (ef62j8 v) Kf7=f62_20 F v:=
 seq_cut (by kernel_rfl) (by kernel_rfl) ef62j8 ef62j10 _ (fun k=>f62_18 F k) (f62_19 F)
  (fun Rj10=>f62_18_eq F Rj10) (f62_19_eq F)
def f62_21(F:Nat):Ty10→Rz:=fun v=>f62_13 F (f62_20 F) v
theorem f62_21_eq(F:Nat):∀ v,XAf62 F (bp Tryd.f62 127) (ef62j7 v) Kf7=f62_21 F v:=
 seq_cut (by kernel_rfl) (by kernel_rfl) ef62j7 ef62j8 _ (fun k=>f62_13 F k) (f62_20 F)
  (fun Rj8=>f62_13_eq F Rj8) (f62_20_eq F)
def f62_22(F:Nat):Ty17→Rz:=fun v=>f62_12 F (f62_21 F) v
theorem f62_22_eq(F:Nat):∀ v,XAf62 F (bp Tryd.f62 63) (ef62j6 v) Kf7=f62_22 F v:=
 seq_cut (by kernel_rfl) (by kernel_rfl) ef62j6 ef62j7 _ (fun k=>f62_12 F k) (f62_21 F)
  (fun Rj7=>f62_12_eq F Rj7) (f62_21_eq F)
def f62_23(F:Nat):Ty15→Rz:=fun v=>f62_11 F (f62_22 F) v
theorem f62_23_eq(F:Nat):∀ v,XAf62 F (bp Tryd.f62 31) (ef62j4 v) Kf7=f62_23 F v:=
 seq_cut (by kernel_rfl) (by kernel_rfl) ef62j4 ef62j6 _ (fun k=>f62_11 F k) (f62_22 F)
  (fun Rj6=>f62_11_eq F Rj6) (f62_22_eq F)
def f62_24(F:Nat):Ty15→Rz:=fun v=>f62_6 F (f62_23 F) v
theorem f62_24_eq(F:Nat):∀ v,XAf62 F (bp Tryd.f62 15) (ef62j3 v) Kf7=f62_24 F v:=
 seq_cut (by kernel_rfl) (by kernel_rfl) ef62j3 ef62j4 _ (fun k=>f62_6 F k) (f62_23 F)
  (fun Rj4=>f62_6_eq F Rj4) (f62_23_eq F)
def f62_25(F:Nat):Ty14→Rz:=fun v=>f62_3 F (f62_24 F) v
theorem f62_25_eq(F:Nat):∀ v,XAf62 F (bp Tryd.f62 7) (ef62j2 v) Kf7=f62_25 F v:=
 seq_cut (by kernel_rfl) (by kernel_rfl) ef62j2 ef62j3 _ (fun k=>f62_3 F k) (f62_24 F)
  (fun Rj3=>f62_3_eq F Rj3) (f62_24_eq F)
def f62_26(F:Nat):Ty10→Rz:=fun v=>f62_2 F (f62_25 F) v
theorem f62_26_eq(F:Nat):∀ v,XAf62 F (bp Tryd.f62 3) (ef62j1 v) Kf7=f62_26 F v:=
 seq_cut (by kernel_rfl) (by kernel_rfl) ef62j1 ef62j2 _ (fun k=>f62_2 F k) (f62_25 F)
  (fun Rj2=>f62_2_eq F Rj2) (f62_25_eq F)
def f62_27(F:Nat):Ty13→Rz:=fun v=>f62_1 F (f62_26 F) v
theorem f62_27_eq(F:Nat):∀ v,XAf62 F (sub (bodyOf Tryd.f62) []) (ef62_a v) Kf7=f62_27 F v:=
 seq_cut (by kernel_rfl) (by kernel_rfl) ef62_a ef62j1 _ (fun k=>f62_1 F k) (f62_26 F)
  (fun Rj1=>f62_1_eq F Rj1) (f62_26_eq F)
def f62(F:Nat):Ty13→Rz:=f62_27 F
theorem f62_body(F:Nat)(a0_0 a0_1:Li)(a0_2:Int):abody V62 (Af62 F) Tryd.f62 [(.agg 73 (.segs (.cons 8 (.rI .u32 a0_0) (.cons 64 (.rI .u8 a0_1) (.cons 1 (.one (.int .u64 a0_2)) .nil)))))] []=f62 F (a0_0,a0_1,a0_2):=
 (abody_in (by kernel_rfl) (by kernel_rfl)).trans (f62_27_eq F (a0_0,a0_1,a0_2))
def r62:CRun:=fun X H=>match X,H with
 | [(.agg 73 (.segs (.cons 8 (.rI .u32 a0_0) (.cons 64 (.rI .u8 a0_1) (.cons 1 (.one (.int .u64 a0_2)) .nil)))))],[]=>some ((decide (a0_2≤9223372036854775000)),(.agg 32 (.rI .u8 (Sha.fin (a0_0,a0_1,a0_2)))),[])
 | _,_=>none
theorem s62(a0_0 a0_1:Li)(a0_2:Int)(hp:((decide (a0_2≤9223372036854775000)))=true)(h0:okV (.agg 73 (.segs (.cons 8 (.rI .u32 a0_0) (.cons 64 (.rI .u8 a0_1) (.cons 1 (.one (.int .u64 a0_2)) .nil)))))):∃ F,f62 F (a0_0,a0_1,a0_2)=some ((.agg 32 (.rI .u8 (Sha.fin (a0_0,a0_1,a0_2)))),[]):=by
 obtain⟨h8,hb,hn0,hn1⟩:=ok_str h0
 have hn:a0_2≤9223372036854775000:=of_decide_eq_true hp
 refine⟨65,?_⟩
 simp only [f62,f62_27,f62_1,f62_26,f62_2,f62_25,f62_3,f62_24,f62_6,f62_5,f62_5_i]
 refine loopN_from (fun i=>(IntKind.u64.wrap (8*a0_2),a0_0,a0_1,a0_2,List.replicate 32 0,128 :: List.replicate i 0)) ((55-a0_2)%64).toNat (by rfl) (fun i hi k=>?_) (fun k=>?_) 65 (by omega)
 ·simp only [f62_4,List.length_cons,List.length_replicate,int_bne]
  rw [i64w (x:=a0_2) (by omega) (by omega),i64w (x:=a0_2+((i+1:Nat):Int)) (by omega) (by omega),tmod_nn (by omega),cond_pos (by omega),cond_pos (by omega)]
  rw [show List.replicate (i+1) (0:Int)=List.replicate i 0++[0] from List.replicate_succ'];rfl
 ·simp only [f62_4,List.length_cons,List.length_replicate,int_bne]
  rw [i64w (x:=a0_2) (by omega) (by omega),i64w (x:=a0_2+((((55-a0_2)%64).toNat+1:Nat):Int)) (by omega) (by omega),tmod_nn (by omega),cond_neg (by omega)]
  generalize hP:(128:Int) :: List.replicate ((55-a0_2)%64).toNat 0=P
  have hPl:P.length≤64:=by rw [← hP];simp;omega
  generalize hM:IntKind.u64.wrap (8*a0_2)=M
  simp only [f62_23,f62_11,f62_7,f62_10,f62_9,f62_9_i]
  refine loopN_from (fun j=>(M,(j:Int),a0_0,a0_1,a0_2,List.replicate 32 0,P++(List.range j).map fun i=>IntKind.u8.wrap (M.fdiv (2^(56-8*i))))) 8 (by simp) (fun j hj k'=>?_) (fun k'=>?_) 65 (by omega)
  ·simp only [f62_8,List.length_append,List.length_map,List.length_range]
   rw [i64w (x:=8*(j:Int)) (by omega) (by omega),i64w (x:=56-8*(j:Int)) (by omega) (by omega),i64w (x:=(j:Int)+1) (by omega) (by omega),cond_pos (by omega),cond_pos (by omega),cond_pos (by omega)]
   rw [show min (56-8*(j:Int)).toNat 64=56-8*j by omega,List.range_succ,List.map_append,List.append_assoc]
   rfl
  ·simp only [f62_8]
   rw [cond_neg (by omega)]
   simp only [f62_22,f62_12,f62_21,f62_13,f62_20,f62_18,f62_14,f62_17,f62_16,f62_16_i]
   have hpad:P++(List.range 8).map (fun i=>IntKind.u8.wrap (M.fdiv (2^(56-8*i))))=Sha.pad a0_2:=by rw [← hP,← hM];rfl
   rw [hpad]
   show loopN _ _ _=some (AV.agg 32 (AV.rI IntKind.u8 (Sha.out (Sha.addS (a0_0,a0_1,a0_2) (Sha.pad a0_2)).1)),[])
   generalize Sha.addS (a0_0,a0_1,a0_2) (Sha.pad a0_2)=R
   obtain⟨R1,R2,R3⟩:=R
   refine loopN_from (fun i=>((i:Int),R1,R2,R3,List.replicate 32 0,(List.range i).map (fun i=>IntKind.u8.wrap ((R1.getD (i / 4) 0).fdiv (2^(24-8*(i%4)))))++List.replicate (32-i) 0)) 32 (by rfl) (fun i hi k''=>?_) (fun k''=>?_) 65 (by omega)
   ·simp only [f62_15,dec_and]
    rw [tdiv_nn (by omega),tmod_nn (by omega),i64w (x:=(i:Int) / 4) (by omega) (by omega),i64w (x:=8*((i:Int)%4)) (by omega) (by omega),i64w (x:=24-8*((i:Int)%4)) (by omega) (by omega),i64w (x:=(i:Int)+1) (by omega) (by omega),
     cond_pos (by omega),cond_pos (by omega),cond_pos (by omega),cond_pos (by omega)]
    rw [show min (24-8*((i:Int)%4)).toNat 32=24-8*(i%4) by omega,show((i:Int) / 4).toNat=i / 4 by omega,Int.toNat_natCast,fill_set _ 0 32 i hi rfl]
    rfl
   ·simp only [f62_15]
    rw [cond_neg (by omega),Nat.sub_self,List.replicate_zero,List.append_nil]
    rfl
theorem c62:CallOk Tryd.prog G36 62 r62:=callOk_of mixed tys eV62 Tryd.func62 (by kernel_rfl) (c:=sub (bodyOf Tryd.f62) []) (by kernel_rfl) (by
 intro X H r H' h hX hH
 unfold r62 at h;split at h <;> try contradiction
 ·obtain⟨hp,rfl,rfl⟩:=inj3 h
  obtain⟨F,hF⟩:=s62 _ _ _ hp (hX _ hm0)
  exact⟨Af62 F,(f62_body F _ _ _).trans hF⟩)
def lV47:List CEnt:=[(60,[],r60),(61,[none,none],r61),(62,[none],r62)]
def V47:Env:=mkEnv T36 G36 lV47
noncomputable abbrev Kf8:=kFin V47 none (Tryd.f47).results.toList
theorem eV47:EOk Tryd.prog V47:=eok_mk (by exact⟨c60,c61,c62,trivial⟩)
def Af47(F:Nat):Cuts:={ F:=F,at_:=fun _=>none,join:=fun _=>none }
def ef47_a:Li→St:=fun a0=>⟨[(0,(.vs (.rI .u8 a0) 0 1))],[],0,8,0⟩
def f47_1(F:Nat):Li→Rz:=fun a0=>(cond (decide ((Sha.addS (Sha.iv,(List.replicate 64 0),(0:Int)) a0).2.2≤9223372036854775000)) (some ((.agg 32 (.rI .u8 (Sha.fin ((Sha.addS (Sha.iv,(List.replicate 64 0),(0:Int)) a0).1,(Sha.addS (Sha.iv,(List.replicate 64 0),(0:Int)) a0).2.1,(Sha.addS (Sha.iv,(List.replicate 64 0),(0:Int)) a0).2.2)))),[])) none)
theorem f47_1_eq(F:Nat):∀ v,aexec V47 (Af47 F) (sub (bodyOf Tryd.f47) []) (ef47_a v) Kf8=f47_1 F v:=by
 intro a0;kernel_rfl
def f47(F:Nat):Li→Rz:=f47_1 F
theorem f47_body(F:Nat)(a0:Li):abody V47 (Af47 F) Tryd.f47 [(.vs (.rI .u8 a0) 0 1)] []=f47 F a0:=
 (abody_in (c:=(sub (bodyOf Tryd.f47) [])) (by kernel_rfl) (s:=ef47_a a0) (by kernel_rfl)).trans (f47_1_eq F a0)
def r47:CRun:=fun X H=>match X,H with
 | [(.vs (.rI .u8 a0) 0 1)],[]=>some (true,(.agg 32 (.rI .u8 (Sha.hash a0))),[])
 | _,_=>none
theorem s47(a0:Li)(h0:okV (.vs (.rI .u8 a0) 0 1)):∃ F,f47 F a0=some ((.agg 32 (.rI .u8 (Sha.hash a0))),[]):=by
 refine⟨0,?_⟩
 have:=h0.2
 simp only [f47,f47_1]
 rw [Sha.addS_n _ _ _ _ (by omega) (by omega),cond_pos (by rw [u64mod];omega),← Sha.addS_n _ Sha.iv (List.replicate 64 0) _ (by omega) (by omega)]
 rfl
theorem c47:CallOk Tryd.prog G36 47 r47:=callOk_of mixed tys eV47 Tryd.func47 (by kernel_rfl) (c:=sub (bodyOf Tryd.f47) []) (by kernel_rfl) (by
 intro X H r H' h hX hH
 unfold r47 at h;split at h <;> try contradiction
 ·obtain⟨hp,rfl,rfl⟩:=inj3 h
  obtain⟨F,hF⟩:=s47 _ (hX _ hm0)
  exact⟨Af47 F,(f47_body F _).trans hF⟩)
end Go.Am
end
section
namespace Go.Am
open Go Go.Proofs
abbrev sp24:List (Nat×Md):=[(0,.plain),(3,.plain)]
end Go.Am
end