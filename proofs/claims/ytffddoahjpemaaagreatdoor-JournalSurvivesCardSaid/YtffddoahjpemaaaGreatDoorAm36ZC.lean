/- Part of a proof. -/
import Derived.Test.YtffddoahjpemaaaGreatDoorAm36ZA
import Derived.Test.YtffddoahjpemaaaGreatDoorAmClaim
import Derived.Test.YtffddoahjpemaaaGreatDoorTie
import Derived.Test.YtffddoahjpemaaaGreatDoorCards
import Derived.LaidMore
import Derived.OpenShut
import Derived.Stop.Joined
import Derived.SevenTiedAt
import Derived.ProofKit
set_option linter.unusedSimpArgs false
set_option linter.unusedVariables false
section
/- What the claims of this seat share: the variables that a row lists. -/
namespace Go.Proofs.YtffddoahjpemaaaGreatDoor
open Go Go.Am Go.ChangeShapes Go.WideShapes Go.ChangeAt Go.WideMaps Go.WideElems Go.RowKit
theorem own:ownKnob Tryz.prog.godebug=none:=by kernel_rfl
theorem afF:laidOutB Tryz.prog=true:=by kernel_rfl
abbrev lBoth : List (String × DataW Unit) := [("gantry/gantryref02.constants", Rows.laid_gantry_gantryref02_constants), ("gantry/hash.constants", Rows.laid_gantry_hash_constants)]
theorem Ru(os:Os)(args:Array Value):laidMetH Tryz.prog lBoth ((World.doorLaid Tryz.prog 400 os).forCall (fun _ _=>0) ⟨#[],args,[]⟩).memory:=
 laidMetH_of_parts3 (fuel:=8) (laidMet_of_run' 8 (by kernel_rfl) (by kernel_rfl)) (by kernel_rfl) (by kernel_rfl)
theorem a2N{W:World}(h:laidMetH Tryz.prog lBoth W):GOk eo W W0:=by
 rw [MakeChecks.laidMetH_plain _ _ _ (by kernel_rfl)] at h
 obtain⟨ps,h,_⟩:=h
 obtain⟨hc0,ps',h'⟩:=tz (g:=0) (t:=164) (m:=64) (e:=137) (k:=.u32) (zs:=Sha.K) h (by kernel_rfl) (by kernel_rfl) (by kernel_rfl) (by kernel_rfl) (by kernel_rfl) rfl
 obtain⟨hc1,_⟩:=tz (g:=2) (t:=164) (m:=64) (e:=137) (k:=.u32) (zs:=Sha.K) h' (by kernel_rfl) (by kernel_rfl) (by kernel_rfl) (by kernel_rfl) (by kernel_rfl) rfl
 refine afv fun g r hg=>?_
 unfold eo at hg
 split at hg
 ·injection hg with hg
  exact⟨.u32,Sha.K,hg.symm,by decide,hc0⟩
 ·injection hg with hg
  exact⟨.u32,Sha.K,hg.symm,by decide,hc1⟩
 ·contradiction
end Go.Proofs.YtffddoahjpemaaaGreatDoor
end
section
/- The same where a row bears a condition on the sizes of what it reads. -/
namespace Go.Am
open Go Go.ChangeShapes Go.WideShapes Go.RowKit
variable {P : Program} {H : Type} {enc : TypeId × Value → H} {W : World}
abbrev eR:=(H:Type)→DataW H→AV→Prop
def lL(P:Program)(t:TypeId)(S:eR):Prop:=∀ (H:Type) (enc:TypeId×Value→H) (W:World) (b0:Nat) (v:Value) (d:DataW H) (ps:List MemPlace),
 Value.okWide P W .any b0 t v→DataW.Trod enc P W 0 (fun _=>true) true t v d ps→(∀ n∈d.weights P t,n≤reachBytes) → ∃ X,S H d X∧Rep W W0 ρ0 X v
def Ly(S:AV→Prop):eR:=fun _ _ X=>S X
theorem mA{t:TypeId}{S:AV→Prop}(h:AA P t S):lL P t (Ly S):=h
def aeB(k:IntKind):eR:=fun H d X=>∃ zs:List Int,X=.vs (.rI k zs) 0 1∧(zs=[] ∨ ∃ es sp,d=.slice es sp∧es.length=zs.length)
theorem Im{t e:TypeId}{k:IntKind}(ht:P.underlying t=some (.slice e))(he:P.underlying e=some (.int k))(hc:P.cellsOf e=1)(hb0:Nat.blt 0 (P.bytesOf e)=true):lL P t (aeB k):=fun H enc W b0 v d ps hv hd hw=>by
 obtain⟨X,⟨zs,rfl⟩,hR⟩:=Lx ht he hc hb0 H enc W b0 v d ps hv hd hw
 obtain⟨a0,len0,cap0,rfl⟩:=okWide_slice ht hv
 obtain⟨fuel,hf⟩:=hd
 refine⟨_,⟨zs,rfl,?_⟩,hR⟩
 rcases open_ints ht he hc hf with ⟨h1,_⟩ | ⟨a,len,cap,zs',h1,_,hl,_,hz,hx,_,_⟩
 ·have h2:(Value.slice a0 len0 cap0)=.slice none 0 0:=by simpa [Value.cells] using h1
  rw [h2] at hR
  left
  cases hR with
  | vs0 _ _ _ _ hr hn=>exact List.length_eq_zero_iff.mp hn
 ·have h2:(Value.slice a0 len0 cap0)=.slice (some a) len cap:=by simpa [Value.cells] using h1
  rw [h2] at hR
  simp only [if_true] at hz
  simp only [Prod.mk.injEq] at hx
  cases hR with
  | vs0 _ _ _ _ hr hn=>exact .inl (List.length_eq_zero_iff.mp hn)
  | vs _ _ _ l _ _ _ _ hr h0 hn hp hk hcap hm hW hcell h=>
   refine .inr ⟨_,_,hx.1,?_⟩
   simp only [AV.size] at hn
   simp only [lits,List.length_map,List.length_take];omega
def aeC(k:IntKind):eR:=fun _ _ X=>∃ zs:List Int,X=.vs (.rI k zs) 0 1∧zs.length≤reachBytes
theorem afG{t e:TypeId}(ht:P.underlying t=some (.slice e))(hb0:Nat.blt 0 (P.bytesOf e)=true){es sp:List (DataW H)}(hw:∀ n∈(DataW.slice es sp).weights P t,n≤reachBytes):es.length≤reachBytes:=by
 have hb:0 < P.bytesOf e:=by rw [Nat.blt_eq] at hb0;exact hb0
 have:=hw ((es.length+sp.length)*P.bytesOf e) (by simp [DataW.weights,ht])
 have h3:=Nat.le_mul_of_pos_right (es.length+sp.length) hb
 omega
theorem Io{t e:TypeId}{k:IntKind}(ht:P.underlying t=some (.slice e))(hb0:Nat.blt 0 (P.bytesOf e)=true)(h:lL P t (aeB k)):lL P t (aeC k):=fun H enc W b0 v d ps hv hd hw=>by
 obtain⟨X,⟨zs,rfl,hz⟩,hR⟩:=h H enc W b0 v d ps hv hd hw
 refine⟨_,⟨zs,rfl,?_⟩,hR⟩
 rcases hz with rfl | ⟨es,sp,rfl,he⟩
 ·simp
 ·rw [← he];exact afG ht hb0 hw
def pM:List eR→List (DataW H)→List AV→Prop
 | [],[],[]=>True
 | S :: l,d :: ds,X :: Xs=>S H d X∧pM l ds Xs
 | _,_,_=>False
theorem pM.inv{S:eR}{l:List eR}:∀ {ds:List (DataW H)} {X:List AV},pM (S :: l) ds X → ∃ d ds' x X',ds=d :: ds'∧X=x :: X'∧S H d x∧pM l ds' X'
 | [],_,h=>h.elim
 | _ :: _,[],h=>h.elim
 | d :: ds,x :: X,h=>⟨d,ds,x,X,rfl,rfl,h.1,h.2⟩
theorem pM.inv0:∀ {ds:List (DataW H)} {X:List AV},pM [] ds X→ds=[]∧X=[]
 | [],[],_=>⟨rfl,rfl⟩
 | [],_ :: _,h=>h.elim
 | _ :: _,_,h=>h.elim
def nM(P:Program):List TypeId→List eR→Prop
 | [],[]=>True
 | t :: ts,S :: l=>lL P t S∧nM P ts l
 | _,_=>False
theorem zi:∀ {ts:List TypeId} {l:List eR} {vs:List Value} {ds:List (DataW H)} {ps:List MemPlace} {b0:Nat},nM P ts l→DataW.TrodAll enc P W 0 (fun _=>true) true ts vs ds ps →
  (∀ (j:Nat) t v,ts[j]?=some t→vs[j]?=some v→Value.okWide P W .any b0 t v)→(∀ n∈DataW.weightsEach P ts ds,n≤reachBytes) → ∃ X,pM l ds X∧Reps W W0 ρ0 X vs
 | [],[],[],[],_,_,_,h,_,_=>⟨[],trivial,trivial⟩
 | [],[],[],_ :: _,_,_,_,h,_,_=>h.elim
 | [],[],_ :: _,[],_,_,_,h,_,_=>h.elim
 | [],[],_ :: _,_ :: _,_,_,_,h,_,_=>h.elim
 | [],_ :: _,_,_,_,_,ho,_,_,_=>ho.elim
 | _ :: _,[],_,_,_,_,ho,_,_,_=>ho.elim
 | _ :: _,_ :: _,[],_,_,_,_,h,_,_=>h.elim
 | _ :: _,_ :: _,_ :: _,[],_,_,_,h,_,_=>h.elim
 | t :: ts,S :: l,v :: vs,d :: ds,ps,b0,ho,h,hv,hw=>by
  obtain⟨p,q,h1,h2,_⟩:=h
  simp only [DataW.weightsEach,List.mem_append] at hw
  obtain⟨X,hX,hR⟩:=ho.1 H enc W b0 v d p (hv 0 t v rfl rfl) h1 (fun n hn=>hw n (.inl hn))
  obtain⟨Xs,hXs,hRs⟩:=zi ho.2 h2 (fun j t v g1 g2=>hv (j+1) t v (by simpa using g1) (by simpa using g2)) (fun n hn=>hw n (.inr hn))
  exact⟨X :: Xs,⟨hX,hXs⟩,hR,hRs⟩
theorem Lz{G:Nat→Option AV}{f:Nat}{fn:Func}{s:ChangeSpec}{run:List AV→List Blk→Option (Bool×AV×List Blk)}{base:Nat}{args:Array Value}{ds gs:List (DataW H)}{before:List MemPlace}{tb:TypeId}{l:List eR}{C:List (DataW H)→Prop}
  (hc:CallOk P G f run) (hG:GOk G W W0) (ho:nM P fn.params.toList l) (hrun:∀ X ds,pM (H:=H) l ds X→C ds→run X []=some (true,.bool true,[]))
  (hl:laidOutB P=true) (ht:(fn.params.toList.all fun t=>P.readableRec t&&decide (t < P.types.size))=true) (hr:fn.resultTypes = #[tb]) (hb:P.underlying tb=some .bool) (hvars:s.vars=[])
  (hfn:∀ ds:List (DataW H),ds.length=fn.params.size→s.fn H ds={ results:=[.lit (.bool true)],args:=ds })
  (hval:∀ (j:Nat) t v,fn.params[j]?=some t→args[j]?=some v→Value.okWide P W .any base t v) (hW:DataW.Whole enc P fn.params.toList s.vars false W args.toList ds gs before)
  (hsz:(DataW.weightsEach P (fn.params.toList++s.plain.varTypes P) (ds++gs)).all (· ≤ reachBytes)=true) (hC:C (ds++gs)) :
  Calls P f args W fun e W'=>∃ v,e=.returned v∧s.post enc P fn false true false false W args v W':=by
 have hW':=hW
 obtain⟨p,q,hA,hV,rfl,hfz,hnd⟩:=hW'
 have hg:gs=[]:=by
  rw [hvars] at hV
  cases gs with
  | nil=>rfl
  | cons _ _=>exact hV.elim
 subst hg
 rw [List.append_nil] at hC
 have hlen:ds.length=fn.params.size:=by
  have:∀ {ts:List TypeId} {vs:List Value} {ds:List (DataW H)} {ps:List MemPlace},DataW.TrodAll enc P W 0 (fun _=>true) true ts vs ds ps→ds.length=ts.length:=by
   intro ts
   induction ts with
   | nil=>intro vs ds ps h;cases vs <;> cases ds <;> first | rfl | exact h.elim
   | cons t ts ih=>
    intro vs ds ps h
    cases vs with
    | nil=>exact h.elim
    | cons v vs=>cases ds with
     | nil=>exact h.elim
     | cons d ds=>obtain⟨_,_,_,h2,_⟩:=h;simp [ih h2]
  rw [this hA];simp
 obtain⟨X,hX,hR⟩:=zi (b0:=base) ho hA (fun j t v g1 g2=>hval j t v (by rw [← Array.getElem?_toList];exact g1) (by rw [← Array.getElem?_toList];exact g2)) (fun n hn=>by
  have:=List.all_eq_true.1 hsz n (by
   rw [List.append_nil]
   have key:∀ (ts us:List TypeId) (ds:List (DataW H)),n∈DataW.weightsEach P ts ds→n∈DataW.weightsEach P (ts++us) ds:=by
    intro ts
    induction ts with
    | nil=>intro us ds h;cases ds <;> simp [DataW.weightsEach] at h
    | cons t ts ih=>
     intro us ds h
     cases ds with
     | nil=>simp [DataW.weightsEach] at h
     | cons d ds=>
      simp only [DataW.weightsEach,List.cons_append,List.mem_append] at h ⊢
      exact h.imp id (ih us ds)
   exact key _ _ _ hn)
  simpa using this)
 refine(enter hc (hrun X ds hX hC) hG hR).mono ?_
 rintro e W' ⟨rfl,hB⟩
 exact⟨_,rfl,Rb hl ht hr hb hW hvars (by rw [List.append_nil];exact hfn ds hlen) hB⟩
end Go.Am
end
section
/- Slices of structs whose fields are integers, bools, strings and slices of integers, as arguments. -/
namespace Go.Am
open Go Go.ChangeShapes Go.WideShapes Go.RowKit
variable {P : Program} {H : Type} {enc : TypeId × Value → H} {W : World}
def tJ(P:Program)(t:TypeId)(k:CK):Prop:=∀ (H:Type) (enc:TypeId×Value→H) (W:World) (n:Nat) (cs:List Value) (x:DataW H×List MemPlace),
 DataW.trod enc P W 0 (fun _=>true) true n t cs=some x→(∀ m∈x.1.weights P t,m≤reachBytes) → ∃ c f,cs=[c]∧Rep W W0 ρ0 (db k f) c∧f.length≤reachBytes+1
theorem cF{t:TypeId}{k:IntKind}(ht:P.underlying t=some (.int k)):tJ P t (.int k):=fun H enc W n cs x h _=>by
 obtain⟨z,h1,_,h3⟩:=DataW.trod_int ht h
 exact⟨_,[z],h1,.int k z (jH h3),by simp⟩
theorem zj{t e:TypeId}{k:IntKind}(ht:P.underlying t=some (.slice e))(he:P.underlying e=some (.int k))(hc:P.cellsOf e=1)(hb0:Nat.blt 0 (P.bytesOf e)=true):tJ P t (.sl k):=fun H enc W n cs x h hw=>by
 have hb:0 < P.bytesOf e:=by rw [Nat.blt_eq] at hb0;exact hb0
 rcases open_ints ht he hc h with ⟨h1,_⟩ | ⟨a,len,cap,zs,h1,_,hl,_,hz,hx,hcell,hwf⟩
 ·exact⟨_,[],h1,.vs0 _ 1 0 none rfl rfl,by simp⟩
 ·simp only [if_true] at hz
  by_cases h0:len=0
  ·subst h0
   exact⟨_,[],h1,.vs0 _ 1 cap _ rfl rfl,by simp⟩
  ·have hlt:len≤reachBytes:=by
    have:=hw (((lits (H:=H) k (zs.take len)).length+(lits (H:=H) k (zs.drop len)).length)*P.bytesOf e) (by rw [hx];simp [DataW.weights,ht])
    simp only [lits,List.length_map,List.length_take,List.length_drop] at this
    have h3:=Nat.le_mul_of_pos_right (min len zs.length+(zs.length-len)) hb
    omega
   refine⟨_,zs.take len,h1,?_,by rw [List.length_take];omega⟩
   have hr:reachBytes < 4611686018427387904:=by decide
   have ha:=hcell 0 (by omega)
   rw [show a.add 0=a by simp [Addr.add]] at ha
   rw [(dZ ha 0).1]
   refine .vs _ 0 1 len cap a.block a.off (fun i=>.int k (zs.getD i 0)) rfl (by omega) (by simp [AV.size];omega) (by omega) (.inl rfl) hl (by omega) (fun h=>h) (fun j hj=>?_) (fun j hj=>?_)
   ·rw [← (dZ ha j).2];exact hcell j (by omega)
   ·simp only [AV.cell]
    rw [zh _ _ _ _ (by omega)]
    refine .int k _ (jH (hwf _ ?_))
    rw [List.getD_eq_getElem?_getD,List.getElem?_eq_getElem (by omega)]
    exact List.getElem_mem _
def EV(P:Program):List Field→List CK→Nat→Prop
 | [],[],_=>True
 | f :: fs,k :: ks,c=>f.offset=c∧P.cellsOf f.type=1∧tJ P f.type k∧EV P fs ks (c+1)
 | _,_,_=>False
theorem EV.len:∀ {fs:List Field} {ks:List CK} {c:Nat},EV P fs ks c→fs.length=ks.length
 | [],[],_,_=>rfl
 | [],_ :: _,_,h=>h.elim
 | _ :: _,[],_,h=>h.elim
 | _ :: fs,_ :: ks,c,h=>by simp [EV.len h.2.2.2]
theorem EV.at:∀ {fs:List Field} {ks:List CK} {c:Nat},EV P fs ks c → ∀ j,j < ks.length → ∃ f,fs[j]?=some f∧f.offset=c+j∧P.cellsOf f.type=1∧tJ P f.type (ks.getD j .bool)
 | [],[],_,_,j,hj=>by simp at hj
 | [],_ :: _,_,h,_,_=>h.elim
 | _ :: _,[],_,h,_,_=>h.elim
 | f :: fs,k :: ks,c,h,0,_=>⟨f,rfl,h.1,h.2.1,h.2.2.1⟩
 | f :: fs,k :: ks,c,h,j+1,hj=>by
  obtain⟨g,h1,h2,h3,h4⟩:=EV.at h.2.2.2 j (by simpa using hj)
  exact⟨g,by simpa using h1,by omega,h3,by simpa using h4⟩
theorem gP:∀ {ts:List TypeId} {ds:List (DataW H)} {j:Nat} {t:TypeId} {d:DataW H} {n:Nat},ts[j]?=some t→ds[j]?=some d→n∈d.weights P t→n∈DataW.weightsEach P ts ds
 | [],_,_,_,_,_,h,_,_=>by simp at h
 | _ :: _,[],_,_,_,_,_,h,_=>by simp at h
 | t :: ts,d :: ds,0,_,_,n,h1,h2,h3=>by
  simp only [List.getElem?_cons_zero,Option.some.injEq] at h1 h2
  subst h1;subst h2
  simp only [DataW.weightsEach,List.mem_append];exact .inl h3
 | t :: ts,d :: ds,j+1,_,_,n,h1,h2,h3=>by
  simp only [DataW.weightsEach,List.mem_append]
  exact .inr (gP (by simpa using h1) (by simpa using h2) h3)
def aeD(ks:List CK):eR:=fun _ _ X=>∃ (xs:List (List (List Int))) (m:Nat),X=.vs (.rT ks xs) m ks.length∧m≤reachBytes∧xs.length=m ∧ ∀ x∈xs,x.length=ks.length ∧ ∀ f∈x,f.length≤reachBytes+1
theorem Ip{t e:TypeId}{fs:Array Field}{ks:List CK}(ht:P.underlying t=some (.slice e))(he:P.underlying e=some (.struct fs))(hf:EV P fs.toList ks 0)(hn:P.cellsOf e=ks.length)(h1n:Nat.blt 1 ks.length=true)
  (hb0:Nat.blt 0 (P.bytesOf e)=true):lL P t (aeD ks):=fun H enc W b0 v d ps hv hd hw=>by
 have hb:0 < P.bytesOf e:=by rw [Nat.blt_eq] at hb0;exact hb0
 rw [Nat.blt_eq] at h1n
 have hk1:klen=klen:=rfl
 obtain⟨a0,len0,cap0,rfl⟩:=okWide_slice ht hv
 obtain⟨fuel,hf'⟩:=hd
 have hkl:∀ l,klen l ks.length=l:=fun l=>by
  unfold klen;split
  ·omega
  ·rfl
 rcases DataW.trod_slice ht hf' with ⟨h1,_⟩ | ⟨a,len,cap,elems,rest,m,_,h1,hx,_,hl,_,hlen,hel,_,_⟩
 ·have h2:(Value.slice a0 len0 cap0)=.slice none 0 0:=by simpa [Value.cells] using h1
  rw [h2]
  exact⟨.vs (.rT ks []) 0 ks.length,⟨[],0,rfl,Nat.zero_le _,rfl,fun x hx=>by simp at hx⟩,.vs0 _ _ 0 none rfl (by simp [AV.size])⟩
 ·have h2:(Value.slice a0 len0 cap0)=.slice (some a) len cap:=by simpa [Value.cells] using h1
  rw [h2]
  simp only [Prod.mk.injEq] at hx
  by_cases h0:len=0
  ·subst h0
   exact⟨.vs (.rT ks []) 0 ks.length,⟨[],0,rfl,Nat.zero_le _,rfl,fun x hx=>by simp at hx⟩,.vs0 _ _ cap _ rfl (by simp [AV.size])⟩
  ·have hlt:len≤reachBytes:=by
    have:=hw (((elems.map (·.1)).length+(rest.map (·.1)).length)*P.bytesOf e) (by rw [hx.1];simp [DataW.weights,ht])
    simp only [List.length_map] at this
    have h3:=Nat.le_mul_of_pos_right (elems.length+rest.length) hb
    omega
   have hr:reachBytes < 4611686018427387904:=by decide
   have each:∀ i j,i < len→j < ks.length → ∃ c f,W.cell? ((a.add (i*ks.length)).add j)=some c∧Rep W W0 ρ0 (db (ks.getD j .bool) f) c∧f.length≤reachBytes+1:=fun i j hi hj=>by
    have h3:=hel i hi
    rw [hn,List.getElem?_eq_getElem (show i < elems.length by omega)] at h3
    cases hcs:W.cells? 0 (a.add (i*ks.length)) ks.length with
    | none=>rw [hcs] at h3;cases h3
    | some cs=>
     rw [hcs] at h3
     obtain⟨_,_,g3⟩:=World.cells?_some hcs
     have h3':DataW.trod enc P W 0 (fun _=>true) true m e cs=some elems[i]:=h3
     obtain⟨xs,m1,_,gx,_,gn,gel⟩:=DataW.trod_struct he h3'
     obtain⟨f,q1,q2,q3,q4⟩:=hf.at j hj
     have q1':fs[j]?=some f:=by rw [← Array.getElem?_toList];exact q1
     have hjx:j < xs.length:=by
      rw [gn];have:=hf.len;rw [← Array.length_toList];omega
     have h4:=gel j f q1'
     rw [q2,q3,Nat.zero_add,List.getElem?_eq_getElem hjx] at h4
     obtain⟨c,z,r1,r2,r3⟩:=q4 H enc W m1 _ _ h4 (fun n hn'=>by
      refine hw n ?_
      rw [hx.1]
      simp only [DataW.weights,ht,List.mem_cons,List.mem_append]
      refine .inr (.inl (lK (d:=elems[i].1) (List.mem_map.mpr ⟨_,List.getElem_mem _,rfl⟩) ?_))
      rw [gx]
      simp only [DataW.weights,he]
      exact gP (j:=j) (t:=f.type) (d:=xs[j].1) (by rw [List.getElem?_map,q1];rfl) (by rw [List.getElem?_map,List.getElem?_eq_getElem hjx];rfl) hn')
     refine⟨c,z,?_,r2,r3⟩
     rw [g3 j hj]
     have:((cs.drop j).take 1)[0]?=some c:=by rw [r1];rfl
     simpa [List.getElem?_take] using this
   have ha:∃ z,W.cell? a=some z:=by
    obtain⟨c,f,q,_⟩:=each 0 0 (by omega) (by omega)
    rw [Nat.zero_mul,show(a.add 0).add 0=a by simp [Addr.add]] at q
    exact⟨c,q⟩
   obtain⟨z0,ha⟩:=ha
   have ea:=(dZ ha 0).1
   have eaddr:∀ i j,(a.add (i*ks.length)).add j=⟨a.block,a.off+(i*ks.length+j),none⟩:=fun i j=>by
    rw [(dZ ha (i*ks.length)).2]
    unfold Addr.add;split
    ·rename_i h0';rw [h0',Nat.add_zero]
    ·show(⟨a.block,a.off+i*ks.length+j,none⟩:Addr)=_
     rw [Nat.add_assoc]
   have pick:∀ i j,∃ f:List Int,(i < len→j < ks.length → ∃ c,W.cell? ⟨a.block,a.off+(i*ks.length+j),none⟩=some c∧Rep W W0 ρ0 (db (ks.getD j .bool) f) c)∧f.length≤reachBytes+1:=fun i j=>by
    by_cases hi:i < len
    ·by_cases hj:j < ks.length
     ·obtain⟨c,f,q1,q2,q3⟩:=each i j hi hj
      rw [eaddr] at q1
      exact⟨f,fun _ _=>⟨c,q1,q2⟩,q3⟩
     ·exact⟨[],fun _ h=>absurd h hj,by simp⟩
    ·exact⟨[],fun h=>absurd h hi,by simp⟩
   let F:Nat→Nat→List Int:=fun i j=>Classical.choose (pick i j)
   have hF:∀ i j,i < len→j < ks.length → ∃ c,W.cell? ⟨a.block,a.off+(i*ks.length+j),none⟩=some c∧Rep W W0 ρ0 (db (ks.getD j .bool) (F i j)) c:=fun i j=>(Classical.choose_spec (pick i j)).1
   have hF2:∀ i j,(F i j).length≤reachBytes+1:=fun i j=>(Classical.choose_spec (pick i j)).2
   refine⟨.vs (.rT ks ((List.range len).map fun i=>(List.range ks.length).map fun j=>F i j)) len ks.length,⟨_,len,rfl,hlt,by simp,fun x hx=>?_⟩,?_⟩
   ·simp only [List.mem_map,List.mem_range] at hx
    obtain⟨i,_,rfl⟩:=hx
    refine⟨by simp,fun f hf=>?_⟩
    simp only [List.mem_map,List.mem_range] at hf
    obtain⟨j,_,rfl⟩:=hf
    exact hF2 i j
   ·rw [ea]
    have hpos:0 < ks.length:=by omega
    refine .vs _ len ks.length len cap a.block a.off (fun j=>(W.cell? ⟨a.block,a.off+j,none⟩).getD Go.undef) rfl hpos (by simp [AV.size]) (by omega) (.inl (hkl len).symm) hl (by omega) (fun h=>h) (fun j hj=>?_) (fun j hj=>?_)
    ·have hi:j / ks.length < len:=by rw [Nat.div_lt_iff_lt_mul hpos];exact hj
     obtain⟨c,q1,_⟩:=hF (j / ks.length) (j%ks.length) hi (Nat.mod_lt _ hpos)
     rw [Nat.mul_comm,Nat.div_add_mod] at q1
     rw [q1];rfl
    ·have hi:j / ks.length < len:=by rw [Nat.div_lt_iff_lt_mul hpos];exact hj
     have hjm:=Nat.mod_lt j hpos
     obtain⟨c,q1,q2⟩:=hF (j / ks.length) (j%ks.length) hi hjm
     rw [Nat.mul_comm,Nat.div_add_mod] at q1
     rw [q1]
     simp only [AV.cell,Option.getD_some]
     have e1:(((List.range len).map fun i=>(List.range ks.length).map fun j=>F i j).getD (j / ks.length) []).getD (j%ks.length) []=F (j / ks.length) (j%ks.length):=by
      have e2:((List.range len).map fun i=>(List.range ks.length).map fun j=>F i j).getD (j / ks.length) []=(List.range ks.length).map fun j'=>F (j / ks.length) j':=by
       rw [List.getD_eq_getElem?_getD,List.getElem?_map,List.getElem?_range hi];rfl
      rw [e2,List.getD_eq_getElem?_getD,List.getElem?_map,List.getElem?_range hjm];rfl
     rw [e1];exact q2
end Go.Am
end
section
/- Structs whose fields are integers, bools, strings and slices of integers, as arguments. -/
namespace Go.Am
open Go Go.ChangeShapes Go.WideShapes Go.RowKit
variable {P : Program} {H : Type} {enc : TypeId × Value → H} {W : World}
def fq:List CK→List (List Int)→AVs
 | [],_=>.nil
 | k :: ks,fs=>.cons 1 (.one (db k (fs.headD []))) (fq ks fs.tail)
def aeE(ks:List CK)(X:AV):Prop:=∃ f:List (List Int),X=.agg ks.length (.segs (fq ks f))
theorem zk:∀ (ks:List CK) (f:List (List Int)),(fq ks f).wfS
 | [],_=>trivial
 | k :: ks,f=>⟨m9 k _,rfl,zk ks f.tail⟩
theorem qD:∀ (ks:List CK) (f:List (List Int)),(fq ks f).sizeS=ks.length
 | [],_=>rfl
 | k :: ks,f=>by
  simp only [fq,AVs.sizeS,AV.size,qD ks f.tail,List.length_cons];omega
theorem qE:∀ (ks:List CK) (f:List (List Int)) (j:Nat),j < ks.length→(fq ks f).cellS j=db (ks.getD j .bool) (f.getD j [])
 | [],_,_,h=>by simp at h
 | k :: ks,f,0,_=>by
  simp only [fq,AVs.cellS,show Nat.blt 0 1=true from rfl,AV.cell,List.getD_cons_zero]
  cases f <;> rfl
 | k :: ks,f,j+1,h=>by
  have:=qE ks f.tail j (by simpa using h)
  simp only [fq,AVs.cellS,dh (show 1≤j+1 by omega),Nat.add_sub_cancel,this,List.getD_cons_succ]
  cases f with
  | nil=>simp
  | cons a f=>rfl
theorem Rv{t:TypeId}{fs:Array Field}{ks:List CK}(ht:P.underlying t=some (.struct fs))(hf:EV P fs.toList ks 0)(hn:P.cellsOf t=ks.length):AA P t (aeE ks):=fun H enc W b0 v d ps hv hd hw=>by
 unfold Value.okWide at hv
 rw [ht] at hv
 obtain⟨cs,rfl,hsz,_⟩:=hv
 obtain⟨fuel,hf'⟩:=hd
 obtain⟨xs,m1,_,gx,_,gn,gel⟩:=DataW.trod_struct ht hf'
 simp only [Prod.mk.injEq] at gx
 have hlen:=hf.len
 have each:∀ j,j < ks.length → ∃ c f,cs.toList[j]?=some c∧Rep W W0 ρ0 (db (ks.getD j .bool) f) c:=fun j hj=>by
  obtain⟨f,q1,q2,q3,q4⟩:=hf.at j hj
  have q1':fs[j]?=some f:=by rw [← Array.getElem?_toList];exact q1
  have hjx:j < xs.length:=by
   rw [gn];rw [← Array.length_toList];omega
  have h4:=gel j f q1'
  rw [q2,q3,Nat.zero_add,List.getElem?_eq_getElem hjx] at h4
  obtain⟨c,z,r1,r2,_⟩:=q4 H enc W m1 _ _ h4 (fun n hn'=>by
   refine hw n ?_
   rw [gx.1]
   simp only [DataW.weights,ht]
   exact gP (j:=j) (t:=f.type) (d:=xs[j].1) (by rw [List.getElem?_map,q1];rfl) (by rw [List.getElem?_map,List.getElem?_eq_getElem hjx];rfl) hn')
  refine⟨c,z,?_,r2⟩
  have:((cs.toList.drop j).take 1)[0]?=some c:=by
   have e:(Value.agg cs).cells.toList=cs.toList:=rfl
   rw [e] at r1;rw [r1];rfl
  simpa [List.getElem?_take] using this
 have pick:∀ j,∃ f:List Int,j < ks.length → ∃ c,cs.toList[j]?=some c∧Rep W W0 ρ0 (db (ks.getD j .bool) f) c:=fun j=>by
  by_cases hj:j < ks.length
  ·obtain⟨c,f,q1,q2⟩:=each j hj
   exact⟨f,fun _=>⟨c,q1,q2⟩⟩
  ·exact⟨[],fun h=>absurd h hj⟩
 let F:Nat→List Int:=fun j=>Classical.choose (pick j)
 have hF:∀ j,j < ks.length → ∃ c,cs.toList[j]?=some c∧Rep W W0 ρ0 (db (ks.getD j .bool) (F j)) c:=fun j=>Classical.choose_spec (pick j)
 refine⟨.agg ks.length (.segs (fq ks ((List.range ks.length).map F))),⟨_,rfl⟩,.agg ks.length _ cs (zk _ _) (qD _ _) (by rw [hsz,hn]) fun j hj=>?_⟩
 obtain⟨c,q1,q2⟩:=hF j hj
 have e1:((List.range ks.length).map F).getD j []=F j:=by
  rw [List.getD_eq_getElem?_getD,List.getElem?_map,List.getElem?_range hj];rfl
 have e2:cs.getD j Go.undef=c:=by
  rw [Array.getD_eq_getD_getElem?,← Array.getElem?_toList,q1];rfl
 show Rep W W0 ρ0 ((fq ks ((List.range ks.length).map F)).cellS j) (cs.getD j Go.undef)
 rw [qE ks _ j hj,e1,e2]
 exact q2
end Go.Am
end
section
namespace Go.Am
open Go Go.Proofs
abbrev sp7:List (Nat×Md):=[(2,.plain),(4,.plain),(5,.plain),(6,.plain),(7,.plain),(21,.plain),(22,.plain)]
abbrev sp8:List (Nat×Md):=[(2,.plain),(4,.plain),(6,.plain),(7,.plain),(94,.plain)]
abbrev sp9:List (Nat×Md):=[(1,.plain),(2,.plain),(4,.plain)]
abbrev aZ1:List (Nat×Md):=[(2,.plain),(4,.plain),(5,.plain)]
abbrev aZ2:List (Nat×Md):=[(2,.plain),(4,.plain),(5,.plain),(6,.plain),(7,.plain)]
abbrev xx:List (Nat×Md):=[(2,.plain),(4,.plain),(6,.plain),(7,.plain)]
abbrev kR:List (Nat×Md):=[(2,.plain),(4,.plain)]
abbrev nN:List (Nat×Md):=[(1,.plain),(2,.plain),(3,.plain),(4,.plain)]
abbrev LA:List (Nat×Md):=[(1,.plain),(2,.plain),(3,.plain),(4,.plain),(23,.plain)]
abbrev LC:List (Nat×Md):=[(1,.plain),(2,.plain),(6,.plain),(40,.plain)]
abbrev xy:List (Nat×Md):=[(1,.plain),(2,.plain)]
abbrev aZ3:List (Nat×Md):=[(1,.plain),(2,.plain),(3,.plain)]
abbrev aZ4:List (Nat×Md):=[(1,.plain),(2,.plain),(6,.plain)]
abbrev xz:List (Nat×Md):=[(2,.plain),(6,.plain)]
abbrev Ty6:=Li×Li×Li×Li×Li
abbrev Ty7:=Li×Int×Li×Li×Li×Li×Li
abbrev Ty8:=Li×Li×Li×Li
abbrev Ty9:=Int×Li×Li×Li×Li
abbrev mB:=Li×Li×Int×Li
abbrev rA:=Li×Li×Li×Int×Li×Li×Int
abbrev LD:=Li×Li×Int×Li×Li×Int
abbrev kS:=Li×Li×Int
abbrev YI:=Int×Li×Li×Int×Li
abbrev eS:=Int×Li×Li×Int×Li×Li
abbrev rC:=Int×Int×Li×Li×Int×Li×Li
abbrev nO:=Li×Li×Int×Li×Li
def a1W:List aF:=[(110,[some 5],YH),(111,[none,none,none,none],YG)]
def dz:Env:=ar aE ao a1W
noncomputable abbrev Kf4:=aI dz none (Tryz.f102).results.toList
theorem a1X:EOk Tryz.prog dz:=aj (by exact⟨a2M,a2K,trivial⟩)
def a1Y(F:Nat):Cuts:={ F:=F,at_:=fun n=>match n with | 4018=>some sp7 | 12014=>some sp8 | _=>none,join:=fun n=>match n with | 1049=>some sp9 | 2047=>some aZ1 | 3045=>some aZ2 | 4020=>some sp7 | 11022=>some xx | 12016=>some sp8 | 17003=>some kR | _=>none }
abbrev cR(F n:Nat){σ:Type}(e:σ→St)(K:Ex→St→Rz)(N:σ→Rz):=Qe dz (a1Y F) (bp Tryz.f102 n) e K N
def I7:Li×Li→St:=fun (a,b)=>hS [(0,(.agg 8 (.rI .u32 a))),(1,(z9 b))] [] 116 0
abbrev z7 a:=(.cells 8 (.rI .u32 a) true:Blk)
def xA:Ty0→St:=fun (a,b,c)=>hS [(1,(z9 a)),pS 2 0 8,pS 4 1 8] [z7 b,z7 c] 116 0
def xB:Ty0→St:=fun (a,b,c)=>hS [pS 2 0 8,pS 4 1 8,pS 5 2 64] [z7 a,z7 b,z4 c] 116 0
abbrev z14 a:=(.cells 4 (.rI .u32 a) true:Blk)
def pN:Ty6→St:=fun (a,b,c,d,e)=>hS [pS 2 0 8,pS 4 1 8,pS 5 2 64,pS 6 3 4,pS 7 4 4] [z7 a,z7 b,z4 c,z14 d,z14 e] 116 0
def pO:Ty7→St:=fun (a,b,c,d,e,f,g)=>hS [pS 2 0 8,pS 4 1 8,pS 5 2 64,pS 6 3 4,pS 7 4 4,(21,(.agg 64 (.rI .u32 a))),iS 22 b] [z7 c,z7 d,z4 e,z14 f,z14 g] 116 0
def I8:Ty7→St:=pO
def d0:Ty8→St:=fun (a,b,c,d)=>hS [pS 2 0 8,pS 4 1 8,pS 6 2 4,pS 7 3 4] [z7 a,z7 b,z14 c,z14 d] 116 0
def pP:Ty9→St:=fun (a,b,c,d,e)=>hS [pS 2 0 8,pS 4 1 8,pS 6 2 4,pS 7 3 4,iS 94 a] [z7 b,z7 c,z14 d,z14 e] 116 0
def I9:Ty9→St:=pP
def fV:Li×Li→St:=fun (a,b)=>hS [pS 2 0 8,pS 4 1 8] [z7 a,z7 b] 116 0
def tK(F:Nat)(a:Ty0→Rz):Li×Li→Rz:=fun (b,c)=>(a (c,b,[0,0,0,0,0,0,0,0]))
theorem Rw F Rj1:cR F 2 I7 (kq dz Rj1 sp9 Kf4) (tK F (Rj1∘xA)):=fun _=>by kernel_rfl
def tL(F:Nat)(b:Ty0→Rz):Ty0→Rz:=fun (a,c,d)=>(cond (decide (a.length=64)) (b (c,d,(Sha.sched a 64))) none)
theorem Rx F Rj2:cR F 6 xA (kq dz Rj2 aZ1 Kf4) (tL F (Rj2∘xB)):=fun _=>by kernel_rfl
def tM(F:Nat)(b:Ty6→Rz):Ty0→Rz:=fun (a,c,d)=>(b (a,c,d,(a.take 4),((a.drop 4).take 4)))
theorem Ry F Rj3:cR F 14 xB (kq dz Rj3 aZ2 Kf4) (tM F (Rj3∘pN)):=fun _=>by kernel_rfl
def tN(F:Nat)(a:Ty7→Rz)(g:Ty8→Rz):Ty6→Rz:=fun (b,c,d,e,f)=>(a (Sha.K,(0:Int),b,c,d,e,f))
theorem RA F Rj4 Rj5:cR F 60 pN (kq dz Rj4 sp7 (kq dz Rj5 xx Kf4)) (tN F (Rj4∘pO) (Rj5∘d0)):=fun _=>by kernel_rfl
def nP(F:Nat)(h:Ty7→Rz)(i:Ty8→Rz):Ty7→Rz:=fun (d,c,f,g,e,b,a)=>(cond (decide (c < (64:Int))) (cond ((decide (0≤c))&&(decide (c < (64:Int)))) (cond ((decide (0≤c))&&(decide (c < (64:Int)))) (h (d,(IntKind.i64.wrap (c+(1:Int))),f,g,e,[(IntKind.u32.wrap ((IntKind.u32.wrap ((IntKind.u32.wrap ((IntKind.u32.wrap ((IntKind.u32.wrap ((a.getD 3 0)+(Sha.mix (a.getD 0 0) (6:Int) (11:Int) (25:Int))))+(af .xor .u32 (af .and .u32 (a.getD 0 0) (a.getD 1 0)) (af .and .u32 (af .xor .u32 (4294967295:Int) (a.getD 0 0)) (a.getD 2 0)))))+(d.getD (Int.toNat c) 0)))+(e.getD (Int.toNat c) 0)))+(IntKind.u32.wrap ((Sha.mix (b.getD 0 0) (2:Int) (13:Int) (22:Int))+(af .xor .u32 (af .xor .u32 (af .and .u32 (b.getD 0 0) (b.getD 1 0)) (af .and .u32 (b.getD 0 0) (b.getD 2 0))) (af .and .u32 (b.getD 1 0) (b.getD 2 0))))))),(b.getD 0 0),(b.getD 1 0),(b.getD 2 0)],[(IntKind.u32.wrap ((b.getD 3 0)+(IntKind.u32.wrap ((IntKind.u32.wrap ((IntKind.u32.wrap ((IntKind.u32.wrap ((a.getD 3 0)+(Sha.mix (a.getD 0 0) (6:Int) (11:Int) (25:Int))))+(af .xor .u32 (af .and .u32 (a.getD 0 0) (a.getD 1 0)) (af .and .u32 (af .xor .u32 (4294967295:Int) (a.getD 0 0)) (a.getD 2 0)))))+(d.getD (Int.toNat c) 0)))+(e.getD (Int.toNat c) 0))))),(a.getD 0 0),(a.getD 1 0),(a.getD 2 0)])) none) none) (i (f,g,b,a)))
theorem RB F Rl1 Rj5:cR F 244 I8 (kq dz Rl1 sp7 (ae 0 (kq dz Rj5 xx Kf4))) (nP F (Rl1∘I8) (Rj5∘d0)):=fun _=>by kernel_rfl
def rD:Ty7→Li×Int×Li×Li×Li×Li×Li:=fun (a,b,c,d,e,f,g)=>(a,b,c,d,e,f,g)
def EW(F:Nat)(a:Ty8→Rz):Ty7→Rz:=fun v=>ay (fun k=>nP F k a) F (rD v)
theorem RD F Rj5:cR F 122 pO (ae 0 (kq dz Rj5 xx Kf4)) (EW F (Rj5∘d0)):=lpC rD (fun k=>nP F k (Rj5∘d0)) (fun Rl1=>RB F Rl1 Rj5)
def EX(F:Nat)(a):=EW F a
theorem RE F Rj5:cR F 61 pO (kq dz Rj5 xx Kf4) (EX F (Rj5∘d0)):=biC (RD F Rj5)
def tO(F:Nat)(a):=tN F (EX F a) a
theorem RF F Rj5:cR F 30 pN (kq dz Rj5 xx Kf4) (tO F (Rj5∘d0)):=sqC (fun k=>tN F k (Rj5∘d0)) (fun Rj4=>RA F Rj4 Rj5) (RE F Rj5)
def tP(F:Nat)(a:Ty9→Rz)(f:Li×Li→Rz):Ty8→Rz:=fun (b,c,d,e)=>(a ((0:Int),b,c,d,e))
theorem RG F Rj6 Rj7:cR F 124 d0 (kq dz Rj6 sp8 (kq dz Rj7 kR Kf4)) (tP F (Rj6∘pP) (Rj7∘fV)):=fun _=>by kernel_rfl
def lM(F:Nat)(f:Ty9→Rz)(g:Li×Li→Rz):Ty9→Rz:=fun (a,b,d,c,e)=>(cond (decide (a < (4:Int))) (cond ((decide (0≤a))&&(decide (a < (8:Int)))) (cond ((decide (0≤a))&&(decide (a < (4:Int)))) (cond ((decide (0≤a))&&(decide (a < (8:Int)))) (cond ((decide (0≤(IntKind.i64.wrap (a+(4:Int)))))&&(decide ((IntKind.i64.wrap (a+(4:Int))) < (8:Int)))) (cond ((decide (0≤a))&&(decide (a < (4:Int)))) (cond ((decide (0≤(IntKind.i64.wrap (a+(4:Int)))))&&(decide ((IntKind.i64.wrap (a+(4:Int))) < (8:Int)))) (f ((IntKind.i64.wrap (a+(1:Int))),((b.set (Int.toNat a) (IntKind.u32.wrap ((b.getD (Int.toNat a) 0)+(c.getD (Int.toNat a) 0)))).set (Int.toNat (IntKind.i64.wrap (a+(4:Int)))) (IntKind.u32.wrap (((b.set (Int.toNat a) (IntKind.u32.wrap ((b.getD (Int.toNat a) 0)+(c.getD (Int.toNat a) 0)))).getD (Int.toNat (IntKind.i64.wrap (a+(4:Int)))) 0)+(e.getD (Int.toNat a) 0)))),d,c,e)) none) none) none) none) none) none) (g (b,d)))
theorem LE F Rl2 Rj7:cR F 500 I9 (kq dz Rl2 sp8 (ae 2 (kq dz Rj7 kR Kf4))) (lM F (Rl2∘I9) (Rj7∘fV)):=fun _=>by kernel_rfl
def nQ:Ty9→Int×Li×Li×Li×Li:=fun (a,b,c,d,e)=>(a,b,c,d,e)
def xC(F:Nat)(a:Li×Li→Rz):Ty9→Rz:=fun v=>ay (fun k=>lM F k a) F (nQ v)
theorem LF F Rj7:cR F 250 pP (ae 2 (kq dz Rj7 kR Kf4)) (xC F (Rj7∘fV)):=lpC nQ (fun k=>lM F k (Rj7∘fV)) (fun Rl2=>LE F Rl2 Rj7)
def xE(F:Nat)(a):=xC F a
theorem LG F Rj7:cR F 125 pP (kq dz Rj7 kR Kf4) (xE F (Rj7∘fV)):=biC (LF F Rj7)
def pQ(F:Nat)(a):=tP F (xE F a) a
theorem LI F Rj7:cR F 62 d0 (kq dz Rj7 kR Kf4) (pQ F (Rj7∘fV)):=sqC (fun k=>tP F k (Rj7∘fV)) (fun Rj6=>RG F Rj6 Rj7) (LG F Rj7)
def Ja(F:Nat):Li×Li→Rz:=fun (a,b)=>(some ((.agg 8 (.rI .u32 a)),[]))
theorem LL F:cR F 63 fV Kf4 (Ja F):=fun _=>by kernel_rfl
def pR(F:Nat):=pQ F (Ja F)
theorem LM F:cR F 31 d0 Kf4 (pR F):=sqC (pQ F) (fun Rj7=>LI F Rj7) (LL F)
def xF(F:Nat):=tO F (pR F)
theorem LN F:cR F 15 pN Kf4 (xF F):=sqC (tO F) (fun Rj5=>RF F Rj5) (LM F)
def xG(F:Nat):=tM F (xF F)
theorem LO F:cR F 7 xB Kf4 (xG F):=sqC (tM F) (fun Rj3=>Ry F Rj3) (LN F)
def xH(F:Nat):=tL F (xG F)
theorem LP F:cR F 3 xA Kf4 (xH F):=sqC (tL F) (fun Rj2=>Rx F Rj2) (LO F)
def xI(F:Nat):=tK F (xH F)
theorem LQ F:cR F 1 I7 Kf4 (xI F):=sqC (tK F) (fun Rj1=>Rw F Rj1) (LP F)
def f102(F:Nat):Li×Li→Rz:=xI F
def YJ:aB:=fun X H=>match X,H with
 | [(.agg 8 (.rI .u32 a0)),(.vs (.rI .u8 a1) 0 1)],[]=>some ((decide (a1.length=64)),(.agg 8 (.rI .u32 (Sha.comp a0 a1))),[])
 | _,_=>none
theorem RH(x:Int)(i j k:Nat)(hi:i < 32∧0 < i)(hj:j < 32∧0 < j)(hk:k < 32∧0 < k):Sha.mix x i j k=Sha.S3 x i j k:=by
 unfold Sha.mix Sha.S3
 rw [ah (by omega) (by omega),ah (by omega) (by omega),ah (by omega) (by omega),show(0-(i:Int)) = -(i:Int) by omega,show(0-(j:Int)) = -(j:Int) by omega,show(0-(k:Int)) = -(k:Int) by omega,
  Sha.rotl_neg _ i hi.1 hi.2,Sha.rotl_neg _ j hj.1 hj.2,Sha.rotl_neg _ k hk.1 hk.2]
theorem a2O(x:Int):Sha.mix x 6 11 25=Sha.S3 x 6 11 25:=RH x 6 11 25 (by decide) (by decide) (by decide)
theorem a2P(x:Int):Sha.mix x 2 13 22=Sha.S3 x 2 13 22:=RH x 2 13 22 (by decide) (by decide) (by decide)
theorem aZ5{l:List Int}(h:l.length=8):∃ a b c d e f g i,l=[a,b,c,d,e,f,g,i]:=by
 match l,h with
 | [a,b,c,d,e,f,g,i],_=>exact⟨a,b,c,d,e,f,g,i,rfl⟩
theorem a2Q(a0 a1:Li)(hp:((decide (a1.length=64)))=true)(h0:okV (.agg 8 (.rI .u32 a0)))(h1:okV (.vs (.rI .u8 a1) 0 1)):∃ F,f102 F (a0,a1)=some ((.agg 8 (.rI .u32 (Sha.comp a0 a1))),[]):=by
 refine⟨65,?_⟩
 simp only [f102,xI,tK,xH,tL,xG,tM,xF,tO,pR,tN,EX,EW,rD]
 rw [hp]
 simp only [cond_true]
 rw [List.take_of_length_le (show(List.drop 4 a0).length≤4 by rw [List.length_drop,(nG h0).1];omega)]
 refine aH (fun i=>(Sha.K,(i:Int),a0,[0,0,0,0,0,0,0,0],Sha.sched a1 64,(Sha.rnds (Sha.sched a1 64) (a0.take 4,a0.drop 4) i).1,(Sha.rnds (Sha.sched a1 64) (a0.take 4,a0.drop 4) i).2)) 64 (by rfl) (fun i hi k=>?_) (fun k=>?_) 65 (by omega)
 ·simp only [nP,ap]
  rw [aa (by omega),aa (by omega),aa (by omega),ah (x:=(i:Int)+1) (by omega) (by omega),a2O,a2P]
  rfl
 ·simp only [nP]
  rw [ad (by omega)]
  simp only [pR,pQ,tP,xE,xC,nQ]
  unfold Sha.comp
  generalize Sha.rnds (Sha.sched a1 64) (a0.take 4,a0.drop 4) 64=t
  obtain⟨v,e⟩:=t
  obtain⟨b0,b1,b2,b3,b4,b5,b6,b7,rfl⟩:=aZ5 (nG h0).1
  refine aH (fun j=>((j:Int),(match j with
   | 0=>[b0,b1,b2,b3,b4,b5,b6,b7]
   | 1=>[Sha.add b0 (v.getD 0 0),b1,b2,b3,Sha.add b4 (e.getD 0 0),b5,b6,b7]
   | 2=>[Sha.add b0 (v.getD 0 0),Sha.add b1 (v.getD 1 0),b2,b3,Sha.add b4 (e.getD 0 0),Sha.add b5 (e.getD 1 0),b6,b7]
   | 3=>[Sha.add b0 (v.getD 0 0),Sha.add b1 (v.getD 1 0),Sha.add b2 (v.getD 2 0),b3,Sha.add b4 (e.getD 0 0),Sha.add b5 (e.getD 1 0),Sha.add b6 (e.getD 2 0),b7]
   | _=>[Sha.add b0 (v.getD 0 0),Sha.add b1 (v.getD 1 0),Sha.add b2 (v.getD 2 0),Sha.add b3 (v.getD 3 0),Sha.add b4 (e.getD 0 0),Sha.add b5 (e.getD 1 0),Sha.add b6 (e.getD 2 0),Sha.add b7 (e.getD 3 0)]),[0,0,0,0,0,0,0,0],v,e)) 4 (by rfl) (fun j hj k'=>?_) (fun k'=>?_) 65 (by omega)
  ·simp only [lM,ap]
   have hj':j=0∨j=1∨j=2∨j=3:=by omega
   rcases hj' with rfl | rfl | rfl | rfl <;> rfl
  ·simp only [lM]
   rw [ad (by omega)]
   rfl
theorem a2R:Ck 102 YJ:=ck a1X Tryz.func102 (by
 intro X H r H' h hX hH
 unfold YJ at h;split at h <;> try contradiction
 ·obtain⟨hp,rfl,rfl⟩:=aJ h
  obtain⟨F,hF⟩:=a2Q _ _ hp (hX _ hm0) (hX _ hm1)
  exact⟨_,abC (LQ F) hF⟩)
def a2S:List aF:=[]
def V92:Env:=ar aE ao a2S
noncomputable abbrev Kf5:=aI V92 none (Tryz.f92).results.toList
theorem a2T:EOk Tryz.prog V92:=aj (by exact trivial)
def a2U(F:Nat):Cuts:={ F:=F,at_:=fun _=>none,join:=fun _=>none }
abbrev a2V(F n:Nat){σ:Type}(e:σ→St)(K:Ex→St→Rz)(N:σ→Rz):=Qe V92 (a2U F) (bp Tryz.f92 n) e K N
def aZ6:Unit→St:=fun _=>hS [] [] 3 0
def aeF(F:Nat):Unit→Rz:=fun _=>(some ((.agg 73 (.segs (.cons 8 (.rI .u32 [(1779033703:Int),(3144134277:Int),(1013904242:Int),(2773480762:Int),(1359893119:Int),(2600822924:Int),(528734635:Int),(1541459225:Int)]) (.cons 64 (.rI .u8 (List.replicate 64 0)) (.cons 1 (.one (.int .u64 0)) .nil))))),[]))
theorem YK F:a2V F 1 aZ6 Kf5 (aeF F):=fun _=>by kernel_rfl
def f92(F:Nat):Unit→Rz:=aeF F
def r92:aB:=fun X H=>match X,H with
 | [],[]=>some (true,(.agg 73 (.segs (.cons 8 (.rI .u32 Sha.iv) (.cons 64 (.rI .u8 (List.replicate 64 0)) (.cons 1 (.one (.int .u64 0)) .nil))))),[])
 | _,_=>none
theorem s92:∃ F,f92 F ()=some ((.agg 73 (.segs (.cons 8 (.rI .u32 Sha.iv) (.cons 64 (.rI .u8 (List.replicate 64 0)) (.cons 1 (.one (.int .u64 0)) .nil))))),[]):=⟨0,rfl⟩
theorem c92:Ck 92 r92:=ck a2T Tryz.func92 (by
 intro X H r H' h hX hH
 unfold r92 at h;split at h <;> try contradiction
 ·obtain⟨hp,rfl,rfl⟩:=aJ h
  obtain⟨F,hF⟩:=s92
  exact⟨_,abC (YK F) hF⟩)
def a2W:List aF:=[(102,[none,some 5],YJ)]
def V93:Env:=ar aE ao a2W
noncomputable abbrev Kf6:=aI V93 none (Tryz.f93).results.toList
theorem a2X:EOk Tryz.prog V93:=aj (by exact⟨a2R,trivial⟩)
def a2Y(F:Nat):Cuts:={ F:=F,at_:=fun n=>match n with | 1020=>some sp9 | _=>none,join:=fun n=>match n with | 1026=>some sp9 | 8003=>some kR | _=>none }
abbrev rE(F n:Nat){σ:Type}(e:σ→St)(K:Ex→St→Rz)(N:σ→Rz):=Qe V93 (a2Y F) (bp Tryz.f93 n) e K N
abbrev z16 a b c:=(.agg 73 (.segs (.cons 8 (.rI .u32 a) (.cons 64 (.rI .u8 b) (.cons 1 (.one (.int .u64 c)) .nil)))):AV)
def RI:mB→St:=fun (a,b,c,d)=>hS [(0,(z16 a b c)),(1,.str d)] [] 38 0
abbrev z2 a b c:=(.cells 73 (.segs (.cons 8 (.rI .u32 a) (.cons 64 (.rI .u8 b) (.cons 1 (.one (.int .u64 c)) .nil)))) true:Blk)
def nR:rA→St:=fun (a,b,c,d,e,f,g)=>hS [(1,.str a),pS 2 0 73,pS 4 1 73] [z2 b c d,z2 e f g] 38 0
def RJ:rA→St:=nR
def nS:LD→St:=fun (a,b,c,d,e,f)=>hS [pS 2 0 73,pS 4 1 73] [z2 a b c,z2 d e f] 38 0
def AB(F:Nat)(a:rA→Rz):mB→Rz:=fun (b,c,d,e)=>(a (e,b,c,d,[0,0,0,0,0,0,0,0],(List.replicate 64 0),(0:Int)))
theorem YL F Rj1:rE F 2 RI (kq V93 Rj1 sp9 Kf6) (AB F (Rj1∘nR)):=fun _=>by kernel_rfl
def AC(F:Nat)(h:rA→Rz)(i:LD→Rz):rA→Rz:=fun (b,d,c,a,e,f,g)=>(cond (!((b:Li)==([]:Li))) (cond (((decide (0≤(IntKind.i64.wrap (Int.tmod a (64:Int)))))&&(decide ((IntKind.i64.wrap (Int.tmod a (64:Int)))≤(64:Int))))&&true) (cond (((decide (0≤(↑(min b.length (64-(Int.toNat (IntKind.i64.wrap (Int.tmod a (64:Int)))))):Int)))&&(decide ((↑(min b.length (64-(Int.toNat (IntKind.i64.wrap (Int.tmod a (64:Int)))))):Int)≤(↑b.length:Int))))&&(decide ((↑b.length:Int)≤(↑b.length:Int)))) (cond ((IntKind.i64.wrap ((IntKind.i64.wrap (Int.tmod a (64:Int)))+(↑(min b.length (64-(Int.toNat (IntKind.i64.wrap (Int.tmod a (64:Int)))))):Int)))==(64:Int)) (cond (decide (((c.take (Int.toNat (IntKind.i64.wrap (Int.tmod a (64:Int))))++(b.take (min b.length (64-(Int.toNat (IntKind.i64.wrap (Int.tmod a (64:Int)))))))++c.drop ((Int.toNat (IntKind.i64.wrap (Int.tmod a (64:Int))))+(min b.length (64-(Int.toNat (IntKind.i64.wrap (Int.tmod a (64:Int)))))))).take 64).length=64)) (h (((b.take b.length).drop (Int.toNat (↑(min b.length (64-(Int.toNat (IntKind.i64.wrap (Int.tmod a (64:Int)))))):Int))),(Sha.comp d ((c.take (Int.toNat (IntKind.i64.wrap (Int.tmod a (64:Int))))++(b.take (min b.length (64-(Int.toNat (IntKind.i64.wrap (Int.tmod a (64:Int)))))))++c.drop ((Int.toNat (IntKind.i64.wrap (Int.tmod a (64:Int))))+(min b.length (64-(Int.toNat (IntKind.i64.wrap (Int.tmod a (64:Int)))))))).take 64)),(c.take (Int.toNat (IntKind.i64.wrap (Int.tmod a (64:Int))))++(b.take (min b.length (64-(Int.toNat (IntKind.i64.wrap (Int.tmod a (64:Int)))))))++c.drop ((Int.toNat (IntKind.i64.wrap (Int.tmod a (64:Int))))+(min b.length (64-(Int.toNat (IntKind.i64.wrap (Int.tmod a (64:Int)))))))),(IntKind.u64.wrap (a+(IntKind.u64.wrap (↑(min b.length (64-(Int.toNat (IntKind.i64.wrap (Int.tmod a (64:Int)))))):Int)))),e,f,g)) none) (h (((b.take b.length).drop (Int.toNat (↑(min b.length (64-(Int.toNat (IntKind.i64.wrap (Int.tmod a (64:Int)))))):Int))),d,(c.take (Int.toNat (IntKind.i64.wrap (Int.tmod a (64:Int))))++(b.take (min b.length (64-(Int.toNat (IntKind.i64.wrap (Int.tmod a (64:Int)))))))++c.drop ((Int.toNat (IntKind.i64.wrap (Int.tmod a (64:Int))))+(min b.length (64-(Int.toNat (IntKind.i64.wrap (Int.tmod a (64:Int)))))))),(IntKind.u64.wrap (a+(IntKind.u64.wrap (↑(min b.length (64-(Int.toNat (IntKind.i64.wrap (Int.tmod a (64:Int)))))):Int)))),e,f,g))) none) none) (i (d,c,a,e,f,g)))
theorem YM F Rl1 Rj2:rE F 24 RJ (kq V93 Rl1 sp9 (ae 0 (kq V93 Rj2 kR Kf6))) (AC F (Rl1∘RJ) (Rj2∘nS)):=fun _=>by kernel_rfl
def xJ:rA→Li×Li×Li×Int×Li×Li×Int:=fun (a,b,c,d,e,f,g)=>(a,b,c,d,e,f,g)
def LR(F:Nat)(a:LD→Rz):rA→Rz:=fun v=>ay (fun k=>AC F k a) F (xJ v)
theorem YN F Rj2:rE F 12 nR (ae 0 (kq V93 Rj2 kR Kf6)) (LR F (Rj2∘nS)):=lpC xJ (fun k=>AC F k (Rj2∘nS)) (fun Rl1=>YM F Rl1 Rj2)
def AD(F:Nat)(a):=LR F a
theorem YO F Rj2:rE F 6 nR (kq V93 Rj2 kR Kf6) (AD F (Rj2∘nS)):=biC (YN F Rj2)
def aeG(F:Nat):LD→Rz:=fun (a,b,c,d,e,f)=>(some ((.agg 73 (.segs (.cons 8 (.rI .u32 a) (.cons 64 (.rI .u8 b) (.cons 1 (.one (.int .u64 c)) .nil))))),[]))
theorem YP F:rE F 7 nS Kf6 (aeG F):=fun _=>by kernel_rfl
def LS(F:Nat):=AD F (aeG F)
theorem YQ F:rE F 3 nR Kf6 (LS F):=sqC (AD F) (fun Rj2=>YO F Rj2) (YP F)
def LU(F:Nat):=AB F (LS F)
theorem Y2 F:rE F 1 RI Kf6 (LU F):=sqC (AB F) (fun Rj1=>YL F Rj1) (YQ F)
def f93(F:Nat):mB→Rz:=LU F
def r93:aB:=fun X H=>match X,H with
 | [(.agg 73 (.segs (.cons 8 (.rI .u32 a0_0) (.cons 64 (.rI .u8 a0_1) (.cons 1 (.one (.int .u64 a0_2)) .nil))))),.str a1],[]=>some (true,(.agg 73 (.segs (.cons 8 (.rI .u32 (Sha.addS (a0_0,a0_1,a0_2) a1).1) (.cons 64 (.rI .u8 (Sha.addS (a0_0,a0_1,a0_2) a1).2.1) (.cons 1 (.one (.int .u64 (Sha.addS (a0_0,a0_1,a0_2) a1).2.2)) .nil))))),[])
 | _,_=>none
theorem RN{a b:List Int}{n:Int}(h:okV (.agg 73 (.segs (.cons 8 (.rI .u32 a) (.cons 64 (.rI .u8 b) (.cons 1 (.one (.int .u64 n)) .nil)))))):a.length=8∧b.length=64∧0≤n∧n≤18446744073709551615:=by
 obtain⟨h1,_,h3⟩:=h
 simp only [AV.wf,AVs.wfS,AV.size,true_and,and_true] at h1
 have:=h3 72 (by omega)
 exact⟨h1.1,h1.2.1,this⟩
theorem s93(a0_0 a0_1:Li)(a0_2:Int)(a1:Li)(h0:okV (.agg 73 (.segs (.cons 8 (.rI .u32 a0_0) (.cons 64 (.rI .u8 a0_1) (.cons 1 (.one (.int .u64 a0_2)) .nil))))))(h1:okV (.str a1)):∃ F,f93 F (a0_0,a0_1,a0_2,a1)=some ((.agg 73 (.segs (.cons 8 (.rI .u32 (Sha.addS (a0_0,a0_1,a0_2) a1).1) (.cons 64 (.rI .u8 (Sha.addS (a0_0,a0_1,a0_2) a1).2.1) (.cons 1 (.one (.int .u64 (Sha.addS (a0_0,a0_1,a0_2) a1).2.2)) .nil))))),[]):=by
 obtain⟨_,hb,hn0,hn1⟩:=RN h0
 refine⟨a1.length+1,?_⟩
 simp only [f93,LU,AB,LS,AD,LR,xJ]
 generalize hR:Sha.addS (a0_0,a0_1,a0_2) a1=R
 refine cA (fun m s=>s.1.length=m∧m < 4611686018427387904∧s.2.2.1.length=64∧0≤s.2.2.2.1∧s.2.2.2.1≤18446744073709551615∧Sha.addS (s.2.1,s.2.2.1,s.2.2.2.1) s.1=R) ?_ _ a1.length _ (by omega) ⟨rfl,h1.1,hb,hn0,hn1,hR⟩
 rintro m ⟨t1,x2,x3,x4,x5,x6,x7⟩ k ⟨g1,gm,g2,g3,g4,g5⟩ hk
 simp only at g1 g2 g3 g4 g5 hk
 simp only [AC]
 by_cases ht:t1=[]
 ·subst ht
  rw [Sha.addS_nil] at g5
  subst g5
  rfl
 ·have hne:(!(t1==[]))=true:=by simp [ht]
  have hpos:0 < t1.length:=List.length_pos_iff.mpr ht
  rw [hne]
  simp only [cond_true]
  have hat:IntKind.i64.wrap (Int.tmod x4 (64:Int))=((x4%64).toNat:Int):=by
   rw [Int.tmod_eq_emod_of_nonneg g3,ah (by omega) (by omega)];omega
  simp only [hat,Int.toNat_natCast,Bool.and_true,ap,wR]
  generalize hA:(x4%64).toNat=A
  generalize hK:min t1.length (64-A)=k0
  rw [aa (by omega),aa (by omega),ah (x:=(A:Int)+(k0:Int)) (by omega) (by omega),List.take_of_length_le (Nat.le_refl t1.length)]
  have hch:=Sha.addS_chunk (t1.take k0) x2 x3 x4 g2 g3 g4 (by rw [List.length_take];omega)
  have hlen:(t1.take k0).length=k0:=by rw [List.length_take];omega
  rw [hA,hlen] at hch
  have hsplit:Sha.addS (x2,x3,x4) t1=Sha.addS (Sha.addS (x2,x3,x4) (t1.take k0)) (t1.drop k0):=by
   rw [← Sha.addS_append,List.take_append_drop]
  rw [hch] at hsplit
  have hw:IntKind.u64.wrap (x4+IntKind.u64.wrap (k0:Int))=IntKind.u64.wrap (x4+(k0:Int)):=by simp only [dy];omega
  have hx3:(x3.take A++t1.take k0++x3.drop (A+k0)).length=64:=by simp [g2];omega
  by_cases h64:A+k0=64
  ·rw [aa (show((A:Int)+(k0:Int)=64) by omega),List.take_of_length_le (l:=(x3.take A++t1.take k0++x3.drop (A+k0))) (by rw [hx3];exact Nat.le_refl _),aa hx3]
   rw [if_pos h64] at hsplit
   refine hk (m-k0) _ (by omega) ⟨by simp only [];rw [List.length_drop];omega,by omega,hx3,?_,?_,?_⟩
   ·simp only [dy];omega
   ·simp only [dy];omega
   ·simp only [];rw [hw,← hsplit];exact g5
  ·rw [ad (show ¬ ((A:Int)+(k0:Int)=64) by omega)]
   rw [if_neg h64] at hsplit
   refine hk (m-k0) _ (by omega) ⟨by simp only [];rw [List.length_drop];omega,by omega,hx3,?_,?_,?_⟩
   ·simp only [dy];omega
   ·simp only [dy];omega
   ·simp only [];rw [hw,← hsplit];exact g5
theorem c93:Ck 93 r93:=ck a2X Tryz.func93 (by
 intro X H r H' h hX hH
 unfold r93 at h;split at h <;> try contradiction
 ·obtain⟨hp,rfl,rfl⟩:=aJ h
  obtain⟨F,hF⟩:=s93 _ _ _ _ (hX _ hm0) (hX _ hm1)
  exact⟨_,abC (Y2 F) hF⟩)
def a2Z:List aF:=[(93,[none,none],r93)]
def V94:Env:=ar aE ao a2Z
noncomputable abbrev Kf7:=aI V94 none (Tryz.f94).results.toList
theorem a21:EOk Tryz.prog V94:=aj (by exact⟨c93,trivial⟩)
def a29(F:Nat):Cuts:={ F:=F,at_:=fun n=>match n with | 3008=>some nN | 6012=>some LA | 13012=>some LC | _=>none,join:=fun n=>match n with | 1056=>some xy | 2054=>some aZ3 | 3052=>some nN | 5041=>some nN | 6014=>some LA | 10024=>some sp9 | 11022=>some xy | 12020=>some aZ4 | 13014=>some LC | 17003=>some xz | _=>none }
abbrev cD(F n:Nat){σ:Type}(e:σ→St)(K:Ex→St→Rz)(N:σ→Rz):=Qe V94 (a29 F) (bp Tryz.f94 n) e K N
def RO:kS→St:=fun (a,b,c)=>hS [(0,(z16 a b c))] [] 58 0
abbrev z6 a:=(.cells 32 (.rI .u8 a) true:Blk)
def tQ:mB→St:=fun (a,b,c,d)=>hS [pS 1 0 73,pS 2 1 32] [z2 a b c,z6 d] 58 0
def EY:YI→St:=fun (a,b,c,d,e)=>hS [pS 1 0 73,pS 2 1 32,(3,.int .u64 a)] [z2 b c d,z6 e] 58 0
abbrev z8 a b:=(.cells a (.rI .u8 b) true:Blk)
def lN:eS→St:=fun (b,c,d,e,f,a)=>hS [pS 1 0 73,pS 2 1 32,(3,.int .u64 b),(4,.own 2 0 1)] [z2 c d e,z6 f,z8 a.length a] 58 0
def RP:eS→St:=lN
def j5:eS→St:=lN
def tR:rC→St:=fun (b,c,d,e,f,g,a)=>hS [pS 1 0 73,pS 2 1 32,(3,.int .u64 b),(4,.own 2 0 1),iS 23 c] [z2 d e f,z6 g,z8 a.length a] 58 0
def RQ:rC→St:=tR
def gQ:nO→St:=fun (b,c,d,e,a)=>hS [pS 1 0 73,pS 2 1 32,(4,.own 2 0 1)] [z2 b c d,z6 e,z8 a.length a] 58 0
def EZ:mB→St:=tQ
def tU:nO→St:=fun (a,b,c,d,e)=>hS [pS 1 0 73,pS 2 1 32,pS 6 2 32] [z2 a b c,z6 d,z6 e] 58 0
def tV:eS→St:=fun (a,b,c,d,e,f)=>hS [pS 1 0 73,pS 2 1 32,pS 6 2 32,iS 40 a] [z2 b c d,z6 e,z6 f] 58 0
def RS:eS→St:=tV
def fX:Li×Li→St:=fun (a,b)=>hS [pS 2 0 32,pS 6 1 32] [z6 a,z6 b] 58 0
def AE(F:Nat)(a:mB→Rz):kS→Rz:=fun (b,c,d)=>(a (b,c,d,(List.replicate 32 0)))
theorem Y3 F Rj1:cD F 2 RO (kq V94 Rj1 xy Kf7) (AE F (Rj1∘tQ)):=fun _=>by kernel_rfl
def AG(F:Nat)(b:YI→Rz):mB→Rz:=fun (c,d,a,e)=>(b ((IntKind.u64.wrap ((8:Int)*a)),c,d,a,e))
theorem Y4 F Rj2:cD F 6 tQ (kq V94 Rj2 aZ3 Kf7) (AG F (Rj2∘EY)):=fun _=>by kernel_rfl
def AH(F:Nat)(a:eS→Rz):YI→Rz:=fun (b,c,d,e,f)=>(a (b,c,d,e,f,[(128:Int)]))
theorem Y5 F Rj3:cD F 14 EY (kq V94 Rj3 nN Kf7) (AH F (Rj3∘lN)):=fun _=>by kernel_rfl
def tW(F:Nat)(g h:eS→Rz):eS→Rz:=fun (c,d,e,b,f,a)=>(cond ((Int.tmod (IntKind.i64.wrap ((IntKind.i64.wrap b)+(↑a.length:Int))) (64:Int)) != (56:Int)) (cond (decide ((a.length+1) < 1073741824)) (g (c,d,e,b,f,(a++[(0:Int)]))) none) (h (c,d,e,b,f,a)))
theorem Y6 F Rl1 Rj4:cD F 120 RP (kq V94 Rl1 nN (ae 0 (kq V94 Rj4 nN Kf7))) (tW F (Rl1∘RP) (Rj4∘j5)):=fun _=>by kernel_rfl
def xK:eS→Int×Li×Li×Int×Li×Li:=fun (a,b,c,d,e,f)=>(a,b,c,d,e,f)
def LV(F:Nat)(a:eS→Rz):eS→Rz:=fun v=>ay (fun k=>tW F k a) F (xK v)
theorem Y7 F Rj4:cD F 60 lN (ae 0 (kq V94 Rj4 nN Kf7)) (LV F (Rj4∘j5)):=lpC xK (fun k=>tW F k (Rj4∘j5)) (fun Rl1=>Y6 F Rl1 Rj4)
def AK(F:Nat)(a):=LV F a
theorem Y8 F Rj4:cD F 30 lN (kq V94 Rj4 nN Kf7) (AK F (Rj4∘j5)):=biC (Y7 F Rj4)
def AL(F:Nat)(a:rC→Rz)(h:nO→Rz):eS→Rz:=fun (b,c,d,e,f,g)=>(a (b,(0:Int),c,d,e,f,g))
theorem Y9 F Rj5 Rj6:cD F 124 j5 (kq V94 Rj5 LA (kq V94 Rj6 sp9 Kf7)) (AL F (Rj5∘tR) (Rj6∘gQ)):=fun _=>by kernel_rfl
def tX(F:Nat)(h:rC→Rz)(i:nO→Rz):rC→Rz:=fun (c,a,d,e,f,g,b)=>(cond (decide (a < (8:Int))) (cond (decide (0≤(IntKind.i64.wrap ((56:Int)-(IntKind.i64.wrap ((8:Int)*a)))))) (cond (decide ((b.length+1) < 1073741824)) (h (c,(IntKind.i64.wrap (a+(1:Int))),d,e,f,g,(b++[(IntKind.u8.wrap (Int.fdiv c (2^(min (Int.toNat (IntKind.i64.wrap ((56:Int)-(IntKind.i64.wrap ((8:Int)*a))))) 64))))]))) none) none) (i (d,e,f,g,b)))
theorem Za F Rl2 Rj6:cD F 500 RQ (kq V94 Rl2 LA (ae 2 (kq V94 Rj6 sp9 Kf7))) (tX F (Rl2∘RQ) (Rj6∘gQ)):=fun _=>by kernel_rfl
def xM:rC→Int×Int×Li×Li×Int×Li×Li:=fun (a,b,c,d,e,f,g)=>(a,b,c,d,e,f,g)
def LW(F:Nat)(a:nO→Rz):rC→Rz:=fun v=>ay (fun k=>tX F k a) F (xM v)
theorem Zb F Rj6:cD F 250 tR (ae 2 (kq V94 Rj6 sp9 Kf7)) (LW F (Rj6∘gQ)):=lpC xM (fun k=>tX F k (Rj6∘gQ)) (fun Rl2=>Za F Rl2 Rj6)
def E0(F:Nat)(a):=LW F a
theorem RU F Rj6:cD F 125 tR (kq V94 Rj6 sp9 Kf7) (E0 F (Rj6∘gQ)):=biC (Zb F Rj6)
def tY(F:Nat)(a):=AL F (E0 F a) a
theorem RX F Rj6:cD F 62 j5 (kq V94 Rj6 sp9 Kf7) (tY F (Rj6∘gQ)):=sqC (fun k=>AL F k (Rj6∘gQ)) (fun Rj5=>Y9 F Rj5 Rj6) (RU F Rj6)
def tZ(F:Nat)(e:mB→Rz):nO→Rz:=fun (a,b,c,f,d)=>(e ((Sha.addS (a,b,c) d).1,(Sha.addS (a,b,c) d).2.1,(Sha.addS (a,b,c) d).2.2,f))
theorem RY F Rj7:cD F 126 gQ (kq V94 Rj7 xy Kf7) (tZ F (Rj7∘EZ)):=fun _=>by kernel_rfl
def ua(F:Nat)(a:nO→Rz):mB→Rz:=fun (b,c,d,e)=>(a (b,c,d,e,(List.replicate 32 0)))
theorem RZ F Rj8:cD F 254 EZ (kq V94 Rj8 aZ4 Kf7) (ua F (Rj8∘tU)):=fun _=>by kernel_rfl
def ub(F:Nat)(a:eS→Rz)(g:Li×Li→Rz):nO→Rz:=fun (b,c,d,e,f)=>(a ((0:Int),b,c,d,e,f))
theorem R7 F Rj9 Rj10:cD F 1020 tU (kq V94 Rj9 LC (kq V94 Rj10 xz Kf7)) (ub F (Rj9∘tV) (Rj10∘fX)):=fun _=>by kernel_rfl
def nT(F:Nat)(e:eS→Rz)(f:Li×Li→Rz):eS→Rz:=fun (a,b,g,h,c,d)=>(cond (decide (a < (32:Int))) (cond ((decide (0≤(IntKind.i64.wrap (Int.tdiv a (4:Int)))))&&(decide ((IntKind.i64.wrap (Int.tdiv a (4:Int))) < (8:Int)))) (cond (decide (0≤(IntKind.i64.wrap ((24:Int)-(IntKind.i64.wrap ((8:Int)*(Int.tmod a (4:Int)))))))) (cond ((decide (0≤a))&&(decide (a < (32:Int)))) (e ((IntKind.i64.wrap (a+(1:Int))),b,g,h,c,(d.set (Int.toNat a) (IntKind.u8.wrap (Int.fdiv (b.getD (Int.toNat (IntKind.i64.wrap (Int.tdiv a (4:Int)))) 0) (2^(min (Int.toNat (IntKind.i64.wrap ((24:Int)-(IntKind.i64.wrap ((8:Int)*(Int.tmod a (4:Int))))))) 32))))))) none) none) none) (f (c,d)))
theorem R9 F Rl3 Rj10:cD F 4084 RS (kq V94 Rl3 LC (ae 4 (kq V94 Rj10 xz Kf7))) (nT F (Rl3∘RS) (Rj10∘fX)):=fun _=>by kernel_rfl
def rF:eS→Int×Li×Li×Int×Li×Li:=fun (a,b,c,d,e,f)=>(a,b,c,d,e,f)
def E3(F:Nat)(a:Li×Li→Rz):eS→Rz:=fun v=>ay (fun k=>nT F k a) F (rF v)
theorem Sa F Rj10:cD F 2042 tV (ae 4 (kq V94 Rj10 xz Kf7)) (E3 F (Rj10∘fX)):=lpC rF (fun k=>nT F k (Rj10∘fX)) (fun Rl3=>R9 F Rl3 Rj10)
def E6(F:Nat)(a):=E3 F a
theorem Sb F Rj10:cD F 1021 tV (kq V94 Rj10 xz Kf7) (E6 F (Rj10∘fX)):=biC (Sa F Rj10)
def uf(F:Nat)(a):=ub F (E6 F a) a
theorem Sc F Rj10:cD F 510 tU (kq V94 Rj10 xz Kf7) (uf F (Rj10∘fX)):=sqC (fun k=>ub F k (Rj10∘fX)) (fun Rj9=>R7 F Rj9 Rj10) (Sb F Rj10)
def Se(F:Nat):Li×Li→Rz:=fun (b,a)=>(some ((.agg 32 (.rI .u8 a)),[]))
theorem Sf F:cD F 511 fX Kf7 (Se F):=fun _=>by kernel_rfl
def E7(F:Nat):=uf F (Se F)
theorem Sg F:cD F 255 tU Kf7 (E7 F):=sqC (uf F) (fun Rj10=>Sc F Rj10) (Sf F)
def E8(F:Nat):=ua F (E7 F)
theorem Si F:cD F 127 EZ Kf7 (E8 F):=sqC (ua F) (fun Rj8=>RZ F Rj8) (Sg F)
def E9(F:Nat):=tZ F (E8 F)
theorem Sj F:cD F 63 gQ Kf7 (E9 F):=sqC (tZ F) (fun Rj7=>RY F Rj7) (Si F)
def Fa(F:Nat):=tY F (E9 F)
theorem Sk F:cD F 31 j5 Kf7 (Fa F):=sqC (tY F) (fun Rj6=>RX F Rj6) (Sj F)
def Fb(F:Nat):=AK F (Fa F)
theorem Sl F:cD F 15 lN Kf7 (Fb F):=sqC (AK F) (fun Rj4=>Y8 F Rj4) (Sk F)
def Fc(F:Nat):=AH F (Fb F)
theorem Sm F:cD F 7 EY Kf7 (Fc F):=sqC (AH F) (fun Rj3=>Y5 F Rj3) (Sl F)
def Fe(F:Nat):=AG F (Fc F)
theorem So F:cD F 3 tQ Kf7 (Fe F):=sqC (AG F) (fun Rj2=>Y4 F Rj2) (Sm F)
def Ff(F:Nat):=AE F (Fe F)
theorem Sp F:cD F 1 RO Kf7 (Ff F):=sqC (AE F) (fun Rj1=>Y3 F Rj1) (So F)
def f94(F:Nat):kS→Rz:=Ff F
def r94:aB:=fun X H=>match X,H with
 | [(.agg 73 (.segs (.cons 8 (.rI .u32 a0_0) (.cons 64 (.rI .u8 a0_1) (.cons 1 (.one (.int .u64 a0_2)) .nil)))))],[]=>some ((decide (a0_2≤9223372036854775000)),(.agg 32 (.rI .u8 (Sha.fin (a0_0,a0_1,a0_2)))),[])
 | _,_=>none
theorem s94(a0_0 a0_1:Li)(a0_2:Int)(hp:((decide (a0_2≤9223372036854775000)))=true)(h0:okV (.agg 73 (.segs (.cons 8 (.rI .u32 a0_0) (.cons 64 (.rI .u8 a0_1) (.cons 1 (.one (.int .u64 a0_2)) .nil)))))):∃ F,f94 F (a0_0,a0_1,a0_2)=some ((.agg 32 (.rI .u8 (Sha.fin (a0_0,a0_1,a0_2)))),[]):=by
 obtain⟨h8,hb,hn0,hn1⟩:=RN h0
 have hn:a0_2≤9223372036854775000:=of_decide_eq_true hp
 refine⟨65,?_⟩
 simp only [f94,Ff,AE,Fe,AG,Fc,AH,Fb,AK,LV,xK]
 refine aH (fun i=>(IntKind.u64.wrap (8*a0_2),a0_0,a0_1,a0_2,List.replicate 32 0,128 :: List.replicate i 0)) ((55-a0_2)%64).toNat (by rfl) (fun i hi k=>?_) (fun k=>?_) 65 (by omega)
 ·simp only [tW,List.length_cons,List.length_replicate,fh]
  rw [ah (x:=a0_2) (by omega) (by omega),ah (x:=a0_2+((i+1:Nat):Int)) (by omega) (by omega),fU (by omega),aa (by omega),aa (by omega)]
  rw [show List.replicate (i+1) (0:Int)=List.replicate i 0++[0] from List.replicate_succ'];rfl
 ·simp only [tW,List.length_cons,List.length_replicate,fh]
  rw [ah (x:=a0_2) (by omega) (by omega),ah (x:=a0_2+((((55-a0_2)%64).toNat+1:Nat):Int)) (by omega) (by omega),fU (by omega),ad (by omega)]
  generalize hP:(128:Int) :: List.replicate ((55-a0_2)%64).toNat 0=P
  have hPl:P.length≤64:=by rw [← hP];simp;omega
  generalize hM:IntKind.u64.wrap (8*a0_2)=M
  simp only [Fa,tY,AL,E0,LW,xM]
  refine aH (fun j=>(M,(j:Int),a0_0,a0_1,a0_2,List.replicate 32 0,P++(List.range j).map fun i=>IntKind.u8.wrap (M.fdiv (2^(56-8*i))))) 8 (by simp) (fun j hj k'=>?_) (fun k'=>?_) 65 (by omega)
  ·simp only [tX,List.length_append,List.length_map,List.length_range]
   rw [ah (x:=8*(j:Int)) (by omega) (by omega),ah (x:=56-8*(j:Int)) (by omega) (by omega),ah (x:=(j:Int)+1) (by omega) (by omega),aa (by omega),aa (by omega),aa (by omega)]
   rw [show min (56-8*(j:Int)).toNat 64=56-8*j by omega,List.range_succ,List.map_append,List.append_assoc]
   rfl
  ·simp only [tX]
   rw [ad (by omega)]
   simp only [E9,tZ,E8,ua,E7,uf,ub,E6,E3,rF]
   have hpad:P++(List.range 8).map (fun i=>IntKind.u8.wrap (M.fdiv (2^(56-8*i))))=Sha.pad a0_2:=by rw [← hP,← hM];rfl
   rw [hpad]
   show ay _ _ _=some (AV.agg 32 (AV.rI IntKind.u8 (Sha.out (Sha.addS (a0_0,a0_1,a0_2) (Sha.pad a0_2)).1)),[])
   generalize Sha.addS (a0_0,a0_1,a0_2) (Sha.pad a0_2)=R
   obtain⟨R1,R2,R3⟩:=R
   refine aH (fun i=>((i:Int),R1,R2,R3,List.replicate 32 0,(List.range i).map (fun i=>IntKind.u8.wrap ((R1.getD (i / 4) 0).fdiv (2^(24-8*(i%4)))))++List.replicate (32-i) 0)) 32 (by rfl) (fun i hi k''=>?_) (fun k''=>?_) 65 (by omega)
   ·simp only [nT,ap]
    rw [iw (by omega),fU (by omega),ah (x:=(i:Int) / 4) (by omega) (by omega),ah (x:=8*((i:Int)%4)) (by omega) (by omega),ah (x:=24-8*((i:Int)%4)) (by omega) (by omega),ah (x:=(i:Int)+1) (by omega) (by omega),
     aa (by omega),aa (by omega),aa (by omega),aa (by omega)]
    rw [show min (24-8*((i:Int)%4)).toNat 32=24-8*(i%4) by omega,show((i:Int) / 4).toNat=i / 4 by omega,Int.toNat_natCast,ru _ 0 32 i hi rfl]
    rfl
   ·simp only [nT]
    rw [ad (by omega),Nat.sub_self,List.replicate_zero,List.append_nil]
    rfl
theorem c94:Ck 94 r94:=ck a21 Tryz.func94 (by
 intro X H r H' h hX hH
 unfold r94 at h;split at h <;> try contradiction
 ·obtain⟨hp,rfl,rfl⟩:=aJ h
  obtain⟨F,hF⟩:=s94 _ _ _ hp (hX _ hm0)
  exact⟨_,abC (Sp F) hF⟩)
def a3a:List aF:=[(92,[],r92),(93,[none,none],r93),(94,[none],r94)]
def V75:Env:=ar aE ao a3a
noncomputable abbrev Kf8:=aI V75 none (Tryz.f75).results.toList
theorem a3b:EOk Tryz.prog V75:=aj (by exact⟨c92,c93,c94,trivial⟩)
def a3c(F:Nat):Cuts:={ F:=F,at_:=fun _=>none,join:=fun _=>none }
abbrev a3d(F n:Nat){σ:Type}(e:σ→St)(K:Ex→St→Rz)(N:σ→Rz):=Qe V75 (a3c F) (bp Tryz.f75 n) e K N
def aZ7:Li→St:=fun a=>hS [(0,(z9 a))] [] 8 0
def LX(F:Nat):Li→Rz:=fun a=>(cond (decide ((Sha.addS (Sha.iv,(List.replicate 64 0),(0:Int)) a).2.2≤9223372036854775000)) (some ((.agg 32 (.rI .u8 (Sha.fin ((Sha.addS (Sha.iv,(List.replicate 64 0),(0:Int)) a).1,(Sha.addS (Sha.iv,(List.replicate 64 0),(0:Int)) a).2.1,(Sha.addS (Sha.iv,(List.replicate 64 0),(0:Int)) a).2.2)))),[])) none)
theorem Zc F:a3d F 1 aZ7 Kf8 (LX F):=fun _=>by kernel_rfl
def f75(F:Nat):Li→Rz:=LX F
def r75:aB:=fun X H=>match X,H with
 | [(.vs (.rI .u8 a0) 0 1)],[]=>some (true,(.agg 32 (.rI .u8 (Sha.hash a0))),[])
 | _,_=>none
theorem s75(a0:Li)(h0:okV (.vs (.rI .u8 a0) 0 1)):∃ F,f75 F a0=some ((.agg 32 (.rI .u8 (Sha.hash a0))),[]):=by
 refine⟨0,?_⟩
 have:=h0.2
 simp only [f75,LX]
 rw [Sha.addS_n _ _ _ _ (by omega) (by omega),aa (by rw [dy];omega),← Sha.addS_n _ Sha.iv (List.replicate 64 0) _ (by omega) (by omega)]
 rfl
theorem c75:Ck 75 r75:=ck a3b Tryz.func75 (by
 intro X H r H' h hX hH
 unfold r75 at h;split at h <;> try contradiction
 ·obtain⟨hp,rfl,rfl⟩:=aJ h
  obtain⟨F,hF⟩:=s75 _ (hX _ hm0)
  exact⟨_,abC (Zc F) hF⟩)
end Go.Am
end
section
namespace Go.Am
open Go Go.Proofs
abbrev gR:List (Nat×Md):=[(0,.plain),(2,.plain),(3,.plain),(4,.plain)]
abbrev LY:List (Nat×Md):=[(2,.plain),(3,.plain),(5,.plain)]
abbrev nU:List (Nat×Md):=[(0,.plain),(2,.plain)]
abbrev dc:List (Nat×Md):=[(0,.plain),(3,.plain)]
abbrev LZ:List (Nat×Md):=[(3,.plain),(4,.plain),(5,.plain)]
abbrev bT:List (Nat×Md):=[(2,.plain),(3,.plain),(4,.plain),(5,.plain)]
abbrev L8:List (Nat×Md):=[(2,.plain),(3,.plain),(4,.plain),(5,.plain),(6,.plain),(7,.plain),(8,.plain),(9,.plain),(10,.plain),(11,.plain),(12,.plain),(13,.plain),(14,.plain),(15,.plain)]
abbrev L9:List (Nat×Md):=[(2,.plain),(3,.plain),(18,.plain),(19,.plain)]
abbrev aZ8:List (Nat×Md):=[(2,.plain),(3,.plain),(4,.plain)]
abbrev aZ9:List (Nat×Md):=[(2,.plain),(3,.plain),(4,.plain),(5,.plain),(6,.plain)]
abbrev a0a:List (Nat×Md):=[(2,.plain),(3,.plain),(4,.plain),(5,.plain),(6,.plain),(7,.plain),(8,.plain),(9,.plain),(10,.plain),(11,.plain),(12,.plain),(13,.plain),(14,.plain)]
abbrev xN:List (Nat×Md):=[(2,.plain),(3,.plain),(4,.plain),(5,.plain),(7,.plain),(8,.plain),(9,.plain),(10,.plain),(11,.plain),(12,.plain),(13,.plain),(14,.plain)]
abbrev a0d:List (Nat×Md):=[(2,.plain),(3,.plain),(18,.plain)]
abbrev xO:List (Nat×Md):=[(2,.plain),(18,.plain)]
abbrev rG:=Int×Li×Li
abbrev cO:=Int×Li×Li×Li
abbrev Zd:=Int×Int×Int×Int×Int×Int×Int×Int×Int×Li×Li×Li×Li
abbrev rH:=Int×Int×Int×Int×Int×Int×Int×Int×Int×Int×Li×Li×Li×Li
abbrev Fg:=Int×Int×Int×Int×Int×Int×Int×Int×Int×Li×Li×Li
def a1Z:List aF:=[]
def Ze:Env:=ar aE ao a1Z
noncomputable abbrev Kf9:=aI Ze none (Tryz.f109).results.toList
theorem a10:EOk Tryz.prog Ze:=aj (by exact trivial)
def a11(F:Nat):Cuts:={ F:=F,at_:=fun _=>none,join:=fun _=>none }
abbrev a12(F n:Nat){σ:Type}(e:σ→St)(K:Ex→St→Rz)(N:σ→Rz):=Qe Ze (a11 F) (bp Tryz.f109 n) e K N
def aY3:Int×Int→St:=fun (a,b)=>hS [(0,.int .u32 a),iS 1 b] [] 13 0
def Fh(F:Nat):Int×Int→Rz:=fun (b,a)=>(cond (decide (0≤a)) (cond (decide (0≤(IntKind.i64.wrap ((32:Int)-a)))) (some ((.int .u32 (af .or .u32 (Int.fdiv b (2^(min (Int.toNat a) 32))) (IntKind.u32.wrap (b*2^(min (Int.toNat (IntKind.i64.wrap ((32:Int)-a))) 32))))),[])) none) none)
theorem Sq F:a12 F 1 aY3 Kf9 (Fh F):=fun _=>by kernel_rfl
def f109(F:Nat):Int×Int→Rz:=Fh F
def Ma:aB:=fun X H=>match X,H with
 | [(.int .u32 a0),.int .i64 a1],[]=>some (((decide (0≤a1))&&(decide (a1≤32))),(.int .u32 (Sha.rotr a0 (Int.toNat a1))),[])
 | _,_=>none
theorem a3e(a0 a1:Int)(hp:(((decide (0≤a1))&&(decide (a1≤32))))=true)(h0:okV (.int .u32 a0))(h1:okV (.int .i64 a1)):∃ F,f109 F (a0,a1)=some ((.int .u32 (Sha.rotr a0 (Int.toNat a1))),[]):=by
 rw [ap,decide_eq_true_eq] at hp
 refine⟨0,?_⟩
 simp only [f109,Fh]
 rw [ah (by omega) (by omega),aa (by omega),aa (by omega),show min a1.toNat 32=a1.toNat by omega,show min (32-a1).toNat 32=32-a1.toNat by omega]
 rfl
theorem a3f:Ck 109 Ma:=ck a10 Tryz.func109 (by
 intro X H r H' h hX hH
 unfold Ma at h;split at h <;> try contradiction
 ·obtain⟨hp,rfl,rfl⟩:=aJ h
  obtain⟨F,hF⟩:=a3e _ _ hp (hX _ hm0) (hX _ hm1)
  exact⟨_,abC (Sq F) hF⟩)
def a13:List aF:=[(109,[none,none],Ma)]
def dO:Env:=ar aE ao a13
noncomputable abbrev eU:=aI dO none (Tryz.f108).results.toList
theorem a14:EOk Tryz.prog dO:=aj (by exact⟨a3f,trivial⟩)
def a15(F:Nat):Cuts:={ F:=F,at_:=fun n=>match n with | 3010=>some gR | 7014=>some LY | _=>none,join:=fun n=>match n with | 1039=>some nU | 2037=>some sp2 | 3012=>some gR | 6022=>some sp6 | 7016=>some LY | 12003=>some sp6 | _=>none }
abbrev dm(F n:Nat){σ:Type}(e:σ→St)(K:Ex→St→Rz)(N:σ→Rz):=Qe dO (a15 F) (bp Tryz.f108 n) e K N
def Jb:Li→St:=fun a=>hS [(0,(z9 a))] [] 101 0
def xP:Li×Li→St:=fun (a,b)=>hS [(0,(z9 a)),pS 2 0 64] [z4 b] 101 0
def pT:Ty0→St:=fun (a,b,c)=>hS [(0,(z9 a)),pS 2 0 64,pS 3 1 64] [z4 b,z4 c] 101 0
def pU:Ty1→St:=fun (a,b,c,d)=>hS [(0,(z9 a)),pS 2 0 64,pS 3 1 64,iS 4 b] [z4 c,z4 d] 101 0
def Jc:Ty1→St:=pU
def dA:Li×Li→St:=fun (a,b)=>hS [pS 2 0 64,pS 3 1 64] [z4 a,z4 b] 101 0
def pV:rG→St:=fun (a,b,c)=>hS [pS 2 0 64,pS 3 1 64,iS 5 a] [z4 b,z4 c] 101 0
def Jd:rG→St:=pV
def fY:Li×Li→St:=dA
def uh(F:Nat)(a:Li×Li→Rz):Li→Rz:=fun b=>(a (b,(List.replicate 64 0)))
theorem Sr F Rj1:dm F 2 Jb (kq dO Rj1 nU eU) (uh F (Rj1∘xP)):=fun _=>by kernel_rfl
def ui(F:Nat)(a:Ty0→Rz):Li×Li→Rz:=fun (b,c)=>(a (b,c,(List.replicate 64 0)))
theorem Ss F Rj2:dm F 6 xP (kq dO Rj2 sp2 eU) (ui F (Rj2∘pT)):=fun _=>by kernel_rfl
def uj(F:Nat)(a:Ty1→Rz)(e:Li×Li→Rz):Ty0→Rz:=fun (b,c,d)=>(a (b,(0:Int),c,d))
theorem Su F Rj3 Rj4:dm F 28 pT (kq dO Rj3 gR (kq dO Rj4 sp6 eU)) (uj F (Rj3∘pU) (Rj4∘dA)):=fun _=>by kernel_rfl
def nV(F:Nat)(e:Ty1→Rz)(f:Li×Li→Rz):Ty1→Rz:=fun (b,a,c,d)=>(cond (decide (a < (16:Int))) (cond ((decide (0≤(IntKind.i64.wrap ((4:Int)*a))))&&(decide ((IntKind.i64.wrap ((4:Int)*a)) < (↑b.length:Int)))) (cond ((decide (0≤(IntKind.i64.wrap ((IntKind.i64.wrap ((4:Int)*a))+(1:Int)))))&&(decide ((IntKind.i64.wrap ((IntKind.i64.wrap ((4:Int)*a))+(1:Int))) < (↑b.length:Int)))) (cond ((decide (0≤(IntKind.i64.wrap ((IntKind.i64.wrap ((4:Int)*a))+(2:Int)))))&&(decide ((IntKind.i64.wrap ((IntKind.i64.wrap ((4:Int)*a))+(2:Int))) < (↑b.length:Int)))) (cond ((decide (0≤(IntKind.i64.wrap ((IntKind.i64.wrap ((4:Int)*a))+(3:Int)))))&&(decide ((IntKind.i64.wrap ((IntKind.i64.wrap ((4:Int)*a))+(3:Int))) < (↑b.length:Int)))) (cond ((decide (0≤a))&&(decide (a < (64:Int)))) (e (b,(IntKind.i64.wrap (a+(1:Int))),c,(d.set (Int.toNat a) (af .or .u32 (af .or .u32 (af .or .u32 (IntKind.u32.wrap ((IntKind.u32.wrap (b.getD (Int.toNat (IntKind.i64.wrap ((4:Int)*a))) 0))*2^24)) (IntKind.u32.wrap ((IntKind.u32.wrap (b.getD (Int.toNat (IntKind.i64.wrap ((IntKind.i64.wrap ((4:Int)*a))+(1:Int)))) 0))*2^16))) (IntKind.u32.wrap ((IntKind.u32.wrap (b.getD (Int.toNat (IntKind.i64.wrap ((IntKind.i64.wrap ((4:Int)*a))+(2:Int)))) 0))*2^8))) (IntKind.u32.wrap (b.getD (Int.toNat (IntKind.i64.wrap ((IntKind.i64.wrap ((4:Int)*a))+(3:Int)))) 0)))))) none) none) none) none) none) (f (c,d)))
theorem Sv F Rl1 Rj4:dm F 116 Jc (kq dO Rl1 gR (ae 0 (kq dO Rj4 sp6 eU))) (nV F (Rl1∘Jc) (Rj4∘dA)):=fun _=>by kernel_rfl
def rJ:Ty1→Li×Int×Li×Li:=fun (a,b,c,d)=>(a,b,c,d)
def Fi(F:Nat)(a:Li×Li→Rz):Ty1→Rz:=fun v=>ay (fun k=>nV F k a) F (rJ v)
theorem Sw F Rj4:dm F 58 pU (ae 0 (kq dO Rj4 sp6 eU)) (Fi F (Rj4∘dA)):=lpC rJ (fun k=>nV F k (Rj4∘dA)) (fun Rl1=>Sv F Rl1 Rj4)
def Fj(F:Nat)(a):=Fi F a
theorem Sx F Rj4:dm F 29 pU (kq dO Rj4 sp6 eU) (Fj F (Rj4∘dA)):=biC (Sw F Rj4)
def uk(F:Nat)(a):=uj F (Fj F a) a
theorem Sy F Rj4:dm F 14 pT (kq dO Rj4 sp6 eU) (uk F (Rj4∘dA)):=sqC (fun k=>uj F k (Rj4∘dA)) (fun Rj3=>Su F Rj3 Rj4) (Sx F Rj4)
def ul(F:Nat)(a:rG→Rz)(d:Li×Li→Rz):Li×Li→Rz:=fun (b,c)=>(a ((16:Int),b,c))
theorem Sz F Rj5 Rj6:dm F 60 dA (kq dO Rj5 LY (kq dO Rj6 sp6 eU)) (ul F (Rj5∘pV) (Rj6∘fY)):=fun _=>by kernel_rfl
def nW(F:Nat)(d:rG→Rz)(e:Li×Li→Rz):rG→Rz:=fun (a,c,b)=>(cond (decide (a < (64:Int))) (cond ((decide (0≤(IntKind.i64.wrap (a-(15:Int)))))&&(decide ((IntKind.i64.wrap (a-(15:Int))) < (64:Int)))) (cond ((decide (0≤(7:Int)))&&(decide ((7:Int)≤32))) (cond ((decide (0≤(IntKind.i64.wrap (a-(15:Int)))))&&(decide ((IntKind.i64.wrap (a-(15:Int))) < (64:Int)))) (cond ((decide (0≤(18:Int)))&&(decide ((18:Int)≤32))) (cond ((decide (0≤(IntKind.i64.wrap (a-(15:Int)))))&&(decide ((IntKind.i64.wrap (a-(15:Int))) < (64:Int)))) (cond ((decide (0≤(IntKind.i64.wrap (a-(2:Int)))))&&(decide ((IntKind.i64.wrap (a-(2:Int))) < (64:Int)))) (cond ((decide (0≤(17:Int)))&&(decide ((17:Int)≤32))) (cond ((decide (0≤(IntKind.i64.wrap (a-(2:Int)))))&&(decide ((IntKind.i64.wrap (a-(2:Int))) < (64:Int)))) (cond ((decide (0≤(19:Int)))&&(decide ((19:Int)≤32))) (cond ((decide (0≤(IntKind.i64.wrap (a-(2:Int)))))&&(decide ((IntKind.i64.wrap (a-(2:Int))) < (64:Int)))) (cond ((decide (0≤(IntKind.i64.wrap (a-(16:Int)))))&&(decide ((IntKind.i64.wrap (a-(16:Int))) < (64:Int)))) (cond ((decide (0≤(IntKind.i64.wrap (a-(7:Int)))))&&(decide ((IntKind.i64.wrap (a-(7:Int))) < (64:Int)))) (cond ((decide (0≤a))&&(decide (a < (64:Int)))) (d ((IntKind.i64.wrap (a+(1:Int))),c,(b.set (Int.toNat a) (IntKind.u32.wrap ((IntKind.u32.wrap ((IntKind.u32.wrap ((b.getD (Int.toNat (IntKind.i64.wrap (a-(16:Int)))) 0)+(af .xor .u32 (af .xor .u32 (Sha.rotr (b.getD (Int.toNat (IntKind.i64.wrap (a-(15:Int)))) 0) (Int.toNat (7:Int))) (Sha.rotr (b.getD (Int.toNat (IntKind.i64.wrap (a-(15:Int)))) 0) (Int.toNat (18:Int)))) (Int.fdiv (b.getD (Int.toNat (IntKind.i64.wrap (a-(15:Int)))) 0) (2^3)))))+(b.getD (Int.toNat (IntKind.i64.wrap (a-(7:Int)))) 0)))+(af .xor .u32 (af .xor .u32 (Sha.rotr (b.getD (Int.toNat (IntKind.i64.wrap (a-(2:Int)))) 0) (Int.toNat (17:Int))) (Sha.rotr (b.getD (Int.toNat (IntKind.i64.wrap (a-(2:Int)))) 0) (Int.toNat (19:Int)))) (Int.fdiv (b.getD (Int.toNat (IntKind.i64.wrap (a-(2:Int)))) 0) (2^10)))))))) none) none) none) none) none) none) none) none) none) none) none) none) none) (e (c,b)))
theorem SA F Rl2 Rj6:dm F 244 Jd (kq dO Rl2 LY (ae 2 (kq dO Rj6 sp6 eU))) (nW F (Rl2∘Jd) (Rj6∘fY)):=fun _=>by kernel_rfl
def nX:rG→Int×Li×Li:=fun (a,b,c)=>(a,b,c)
def xQ(F:Nat)(a:Li×Li→Rz):rG→Rz:=fun v=>ay (fun k=>nW F k a) F (nX v)
theorem Mb F Rj6:dm F 122 pV (ae 2 (kq dO Rj6 sp6 eU)) (xQ F (Rj6∘fY)):=lpC nX (fun k=>nW F k (Rj6∘fY)) (fun Rl2=>SA F Rl2 Rj6)
def xR(F:Nat)(a):=xQ F a
theorem Mc F Rj6:dm F 61 pV (kq dO Rj6 sp6 eU) (xR F (Rj6∘fY)):=biC (Mb F Rj6)
def pW(F:Nat)(a):=ul F (xR F a) a
theorem Me F Rj6:dm F 30 dA (kq dO Rj6 sp6 eU) (pW F (Rj6∘fY)):=sqC (fun k=>ul F k (Rj6∘fY)) (fun Rj5=>Sz F Rj5 Rj6) (Mc F Rj6)
def xT(F:Nat):Li×Li→Rz:=fun (b,a)=>(some ((.agg 64 (.rI .u32 a)),[]))
theorem Mf F:dm F 31 fY eU (xT F):=fun _=>by kernel_rfl
def xU(F:Nat):=pW F (xT F)
theorem Mg F:dm F 15 dA eU (xU F):=sqC (pW F) (fun Rj6=>Me F Rj6) (Mf F)
def xW(F:Nat):=uk F (xU F)
theorem Mh F:dm F 7 pT eU (xW F):=sqC (uk F) (fun Rj4=>Sy F Rj4) (Mg F)
def xX(F:Nat):=ui F (xW F)
theorem Mi F:dm F 3 xP eU (xX F):=sqC (ui F) (fun Rj2=>Ss F Rj2) (Mh F)
def xY(F:Nat):=uh F (xX F)
theorem Mj F:dm F 1 Jb eU (xY F):=sqC (uh F) (fun Rj1=>Sr F Rj1) (Mi F)
def f108(F:Nat):Li→Rz:=xY F
def Zf:aB:=fun X H=>match X,H with
 | [(.vs (.rI .u8 a0) 0 1)],[]=>some ((decide (64≤a0.length)),(.agg 64 (.rI .u32 (Sha.sched a0 64))),[])
 | _,_=>none
theorem Zg{l:List Int}(h:∀ x∈l,0≤x∧x≤255)(i:Nat):0≤l.getD i 0∧l.getD i 0≤255:=by
 by_cases hi:i < l.length
 ·rw [List.getD_eq_getElem?_getD,List.getElem?_eq_getElem hi];exact h _ (List.getElem_mem hi)
 ·rw [List.getD_eq_getElem?_getD,List.getElem?_eq_none (by omega)];simp
theorem Fl(i a b:Nat)(h:b < 2^i)(h2:a*2^i+b < 4294967296):af .or .u32 ((a*2^i:Nat):Int) (b:Int)=((a*2^i+b:Nat):Int):=by
 show IntKind.u32.wrap (((BitVec.ofInt 32 ((a*2^i:Nat):Int)) ||| (BitVec.ofInt 32 (b:Int))).toNat:Int)=_
 rw [BitVec.toNat_or,BitVec.toNat_ofInt,BitVec.toNat_ofInt]
 generalize hx:a*2^i=x at *
 have e1:((x:Int)%((2^32:Nat):Int)).toNat=x:=by omega
 have e2:((b:Int)%((2^32:Nat):Int)).toNat=b:=by omega
 rw [e1,e2,← hx,← Nat.shiftLeft_eq,← Nat.shiftLeft_add_eq_or_of_lt h,Nat.shiftLeft_eq,hx,jY (by omega) (by omega)]
theorem or4(a b c d:Int)(ha:0≤a∧a≤255)(hb:0≤b∧b≤255)(hc:0≤c∧c≤255)(hd:0≤d∧d≤255):
  af .or .u32 (af .or .u32 (af .or .u32 (IntKind.u32.wrap ((IntKind.u32.wrap a)*2^24)) (IntKind.u32.wrap ((IntKind.u32.wrap b)*2^16))) (IntKind.u32.wrap ((IntKind.u32.wrap c)*2^8))) (IntKind.u32.wrap d)=Sha.word a b c d:=by
 obtain⟨a,rfl⟩:=Int.eq_ofNat_of_zero_le ha.1
 obtain⟨b,rfl⟩:=Int.eq_ofNat_of_zero_le hb.1
 obtain⟨c,rfl⟩:=Int.eq_ofNat_of_zero_le hc.1
 obtain⟨d,rfl⟩:=Int.eq_ofNat_of_zero_le hd.1
 rw [jY (x:=(a:Int)) (by omega) (by omega),jY (x:=(b:Int)) (by omega) (by omega),jY (x:=(c:Int)) (by omega) (by omega),jY (x:=(d:Int)) (by omega) (by omega),
  jY (x:=(a:Int)*2^24) (by omega) (by omega),jY (x:=(b:Int)*2^16) (by omega) (by omega),jY (x:=(c:Int)*2^8) (by omega) (by omega)]
 have e1:af .or .u32 ((a:Int)*2^24) ((b:Int)*2^16)=(((a*256+b)*2^16:Nat):Int):=by
  have:=Fl 24 a (b*2^16) (by omega) (by omega)
  rw [show((a:Int)*2^24)=((a*2^24:Nat):Int) by omega,show((b:Int)*2^16)=((b*2^16:Nat):Int) by omega,this];omega
 have e2:af .or .u32 (((a*256+b)*2^16:Nat):Int) ((c:Int)*2^8)=((((a*256+b)*256+c)*2^8:Nat):Int):=by
  have:=Fl 16 (a*256+b) (c*2^8) (by omega) (by omega)
  rw [show((c:Int)*2^8)=((c*2^8:Nat):Int) by omega,this];omega
 rw [e1,e2,Fl 8 _ d (by omega) (by omega)]
 unfold Sha.word;omega
theorem a3g(a0:Li)(hp:((decide (64≤a0.length)))=true)(h0:okV (.vs (.rI .u8 a0) 0 1)):∃ F,f108 F a0=some ((.agg 64 (.rI .u32 (Sha.sched a0 64))),[]):=by
 have hl:64≤a0.length:=of_decide_eq_true hp
 have hl2:=h0.2
 have hb:∀ i,0≤a0.getD i 0∧a0.getD i 0≤255:=Zg (fun x hx=>jX (h0.1 x hx))
 refine⟨65,?_⟩
 simp only [f108,xY,uh,xX,ui,xW,uk,uj,Fj,Fi,rJ]
 refine aH (fun i=>(a0,(i:Int),List.replicate 64 0,Sha.sched a0 i++List.replicate (64-i) 0)) 16 (by rfl) (fun i hi k=>?_) (fun k=>?_) 65 (by omega)
 ·simp only [nV,ap]
  rw [ah (x:=4*(i:Int)) (by omega) (by omega),ah (x:=4*(i:Int)+1) (by omega) (by omega),ah (x:=4*(i:Int)+2) (by omega) (by omega),ah (x:=4*(i:Int)+3) (by omega) (by omega),ah (x:=(i:Int)+1) (by omega) (by omega),
   aa (by omega),aa (by omega),aa (by omega),aa (by omega),aa (by omega),aa (by omega)]
  rw [show(4*(i:Int)).toNat=4*i by omega,show(4*(i:Int)+1).toNat=4*i+1 by omega,show(4*(i:Int)+2).toNat=4*i+2 by omega,show(4*(i:Int)+3).toNat=4*i+3 by omega,Int.toNat_natCast,
   or4 _ _ _ _ (hb _) (hb _) (hb _) (hb _),kK a0 i _ (by omega) (by simp only [Sha.sched,if_pos hi])]
  rfl
 ·simp only [nV]
  rw [ad (by omega)]
  simp only [xU,pW,ul,xR,xQ,nX]
  refine aH (fun i=>(((i+16:Nat):Int),List.replicate 64 0,Sha.sched a0 (i+16)++List.replicate (64-(i+16)) 0)) 48 (by rfl) (fun i hi k'=>?_) (fun k'=>?_) 65 (by omega)
  ·simp only [nW,ap]
   generalize hj:i+16=j
   have h16:¬ j < 16:=by omega
   rw [ah (x:=(j:Int)-15) (by omega) (by omega),ah (x:=(j:Int)-2) (by omega) (by omega),ah (x:=(j:Int)-16) (by omega) (by omega),ah (x:=(j:Int)-7) (by omega) (by omega),ah (x:=(j:Int)+1) (by omega) (by omega)]
   repeat rw [aa (by omega)]
   rw [show((j:Int)-15).toNat=j-15 by omega,show((j:Int)-2).toNat=j-2 by omega,show((j:Int)-16).toNat=j-16 by omega,show((j:Int)-7).toNat=j-7 by omega,Int.toNat_natCast]
   rw [dG a0 j (j-15) _ (by omega),dG a0 j (j-2) _ (by omega),dG a0 j (j-16) _ (by omega),dG a0 j (j-7) _ (by omega)]
   rw [kK a0 j _ (by omega) (by simp only [Sha.sched,if_neg h16];rfl),show i+1+16=j+1 by omega]
   rfl
  ·simp only [nW]
   rw [ad (by omega)]
   simp only [xT]
   rw [Nat.sub_self,List.replicate_zero,List.append_nil]
theorem c108:Ck 108 Zf:=ck a14 Tryz.func108 (by
 intro X H r H' h hX hH
 unfold Zf at h;split at h <;> try contradiction
 ·obtain⟨hp,rfl,rfl⟩:=aJ h
  obtain⟨F,hF⟩:=a3g _ hp (hX _ hm0)
  exact⟨_,abC (Mj F) hF⟩)
def a16:List aF:=[]
def ep:Env:=ar aE ao a16
noncomputable abbrev dP:=aI ep none (Tryz.f107).results.toList
theorem a17:EOk Tryz.prog ep:=aj (by exact trivial)
def a18(F:Nat):Cuts:={ F:=F,at_:=fun n=>match n with | 3008=>some dc | 7010=>some LZ | _=>none,join:=fun n=>match n with | 1035=>some [(0,.plain)] | 2033=>some dc | 3031=>some dc | 5020=>some dc | 6018=>some [(3,.plain),(4,.plain)] | 7012=>some LZ | 10003=>some [(3,.plain)] | _=>none }
abbrev cT(F n:Nat){σ:Type}(e:σ→St)(K:Ex→St→Rz)(N:σ→Rz):=Qe ep (a18 F) (bp Tryz.f107 n) e K N
def Je:Li→St:=fun a=>hS [(0,(z9 a))] [] 37 0
def xZ:Li→St:=fun a=>hS [(0,(z9 a))] [] 37 0
def jJ:Li×Li→St:=fun (b,a)=>hS [(0,(z9 b)),(3,.own 0 0 1)] [z8 a.length a] 37 0
def pX:Li×Li→St:=jJ
def Jf:Li×Li→St:=jJ
def jK:Li×Li→St:=jJ
def pY:Int×Li→St:=fun (b,a)=>hS [(3,.own 0 0 1),(4,.int .u64 b)] [z8 a.length a] 37 0
def pZ:Int×Int×Li→St:=fun (b,c,a)=>hS [(3,.own 0 0 1),(4,.int .u64 b),iS 5 c] [z8 a.length a] 37 0
def Jg:Int×Int×Li→St:=pZ
def fZ:Li→St:=fun a=>hS [(3,.own 0 0 1)] [z8 a.length a] 37 0
def um(F:Nat)(a:Li→Rz):Li→Rz:=fun b=>(a b)
theorem SB F Rj1:cT F 2 Je (kq ep Rj1 [(0,.plain)] dP) (um F (Rj1∘xZ)):=fun _=>by kernel_rfl
def un(F:Nat)(b:Li×Li→Rz):Li→Rz:=fun a=>(cond (decide ((0+a.length) < 1073741824)) (b (a,([]++a))) none)
theorem SC F Rj2:cT F 6 xZ (kq ep Rj2 dc dP) (un F (Rj2∘jJ)):=fun _=>by kernel_rfl
def uq(F:Nat)(b:Li×Li→Rz):Li×Li→Rz:=fun (c,a)=>(cond (decide ((a.length+1) < 1073741824)) (b (c,(a++[(128:Int)]))) none)
theorem SD F Rj3:cT F 14 jJ (kq ep Rj3 dc dP) (uq F (Rj3∘pX)):=fun _=>by kernel_rfl
def nY(F:Nat)(c d:Li×Li→Rz):Li×Li→Rz:=fun (b,a)=>(cond ((Int.tmod (↑a.length:Int) (64:Int)) != (56:Int)) (cond (decide ((a.length+1) < 1073741824)) (c (b,(a++[(0:Int)]))) none) (d (b,a)))
theorem SE F Rl1 Rj4:cT F 120 Jf (kq ep Rl1 dc (ae 0 (kq ep Rj4 dc dP))) (nY F (Rl1∘Jf) (Rj4∘jK)):=fun _=>by kernel_rfl
def rK:Li×Li→Li×Li:=fun (a,b)=>(a,b)
def Fo(F:Nat)(a:Li×Li→Rz):Li×Li→Rz:=fun v=>ay (fun k=>nY F k a) F (rK v)
theorem SG F Rj4:cT F 60 pX (ae 0 (kq ep Rj4 dc dP)) (Fo F (Rj4∘jK)):=lpC rK (fun k=>nY F k (Rj4∘jK)) (fun Rl1=>SE F Rl1 Rj4)
def ut(F:Nat)(a):=Fo F a
theorem SH F Rj4:cT F 30 pX (kq ep Rj4 dc dP) (ut F (Rj4∘jK)):=biC (SG F Rj4)
def uv(F:Nat)(a:Int×Li→Rz):Li×Li→Rz:=fun (b,c)=>(a ((IntKind.u64.wrap ((8:Int)*(IntKind.u64.wrap (↑b.length:Int)))),c))
theorem SI F Rj5:cT F 62 jK (kq ep Rj5 [(3,.plain),(4,.plain)] dP) (uv F (Rj5∘pY)):=fun _=>by kernel_rfl
def uw(F:Nat)(a:Int×Int×Li→Rz)(d:Li→Rz):Int×Li→Rz:=fun (b,c)=>(a (b,(0:Int),c))
theorem SJ F Rj6 Rj7:cT F 252 pY (kq ep Rj6 LZ (kq ep Rj7 [(3,.plain)] dP)) (uw F (Rj6∘pZ) (Rj7∘fZ)):=fun _=>by kernel_rfl
def nZ(F:Nat)(d:Int×Int×Li→Rz)(e:Li→Rz):Int×Int×Li→Rz:=fun (c,a,b)=>(cond (decide (a < (8:Int))) (cond (decide (0≤(IntKind.i64.wrap ((56:Int)-(IntKind.i64.wrap ((8:Int)*a)))))) (cond (decide ((b.length+1) < 1073741824)) (d (c,(IntKind.i64.wrap (a+(1:Int))),(b++[(IntKind.u8.wrap (Int.fdiv c (2^(min (Int.toNat (IntKind.i64.wrap ((56:Int)-(IntKind.i64.wrap ((8:Int)*a))))) 64))))]))) none) none) (e b))
theorem SK F Rl2 Rj7:cT F 1012 Jg (kq ep Rl2 LZ (ae 2 (kq ep Rj7 [(3,.plain)] dP))) (nZ F (Rl2∘Jg) (Rj7∘fZ)):=fun _=>by kernel_rfl
def oj:Int×Int×Li→Int×Int×Li:=fun (a,b,c)=>(a,b,c)
def x8(F:Nat)(a:Li→Rz):Int×Int×Li→Rz:=fun v=>ay (fun k=>nZ F k a) F (oj v)
theorem Mk F Rj7:cT F 506 pZ (ae 2 (kq ep Rj7 [(3,.plain)] dP)) (x8 F (Rj7∘fZ)):=lpC oj (fun k=>nZ F k (Rj7∘fZ)) (fun Rl2=>SK F Rl2 Rj7)
def x9(F:Nat)(a):=x8 F a
theorem Ml F Rj7:cT F 253 pZ (kq ep Rj7 [(3,.plain)] dP) (x9 F (Rj7∘fZ)):=biC (Mk F Rj7)
def qa(F:Nat)(a):=uw F (x9 F a) a
theorem Mm F Rj7:cT F 126 pY (kq ep Rj7 [(3,.plain)] dP) (qa F (Rj7∘fZ)):=sqC (fun k=>uw F k (Rj7∘fZ)) (fun Rj6=>SJ F Rj6 Rj7) (Ml F Rj7)
def ya(F:Nat):Li→Rz:=fun a=>(some ((.own 0 0 1),[(.cells a.length (.rI .u8 a) true)]))
theorem Mn F:cT F 127 fZ dP (ya F):=fun _=>by kernel_rfl
def yb(F:Nat):=qa F (ya F)
theorem Mo F:cT F 63 pY dP (yb F):=sqC (qa F) (fun Rj7=>Mm F Rj7) (Mn F)
def yc(F:Nat):=uv F (yb F)
theorem Mp F:cT F 31 jK dP (yc F):=sqC (uv F) (fun Rj5=>SI F Rj5) (Mo F)
def yd(F:Nat):=ut F (yc F)
theorem Mq F:cT F 15 pX dP (yd F):=sqC (ut F) (fun Rj4=>SH F Rj4) (Mp F)
def ye(F:Nat):=uq F (yd F)
theorem Mr F:cT F 7 jJ dP (ye F):=sqC (uq F) (fun Rj3=>SD F Rj3) (Mq F)
def yf(F:Nat):=un F (ye F)
theorem Ms F:cT F 3 xZ dP (yf F):=sqC (un F) (fun Rj2=>SC F Rj2) (Mr F)
def yg(F:Nat):=um F (yf F)
theorem Mt F:cT F 1 Je dP (yg F):=sqC (um F) (fun Rj1=>SB F Rj1) (Ms F)
def f107(F:Nat):Li→Rz:=yg F
def Zh:aB:=fun X H=>match X,H with
 | [(.vs (.rI .u8 a0) 0 1)],[]=>some ((decide (a0.length < 1073741000)),.own 0 0 1,[(.cells (Sha.padded a0).length (.rI .u8 (Sha.padded a0)) true)])
 | _,_=>none
theorem a3h(a0:Li)(hp:((decide (a0.length < 1073741000)))=true)(h0:okV (.vs (.rI .u8 a0) 0 1)):∃ F,f107 F a0=some ((.own 0 0 1),[(.cells (Sha.padded a0).length (.rI .u8 (Sha.padded a0)) true)]):=by
 have hl:a0.length < 1073741000:=of_decide_eq_true hp
 refine⟨65,?_⟩
 simp only [f107,yg,um,yf,un,ye,uq,yd,ut,Fo,rK,List.nil_append]
 rw [aa (by omega),aa (by omega)]
 generalize hN:a0.length=N at *
 refine aH (fun i=>(a0,a0++128 :: List.replicate i 0)) ((55-(N:Int))%64).toNat (by rfl) (fun i hi k=>?_) (fun k=>?_) 65 (by omega)
 ·simp only [nY,List.length_append,List.length_cons,List.length_replicate,fh,hN]
  rw [fU (by omega),aa (by omega),aa (by omega)]
  rw [show List.replicate (i+1) (0:Int)=List.replicate i 0++[0] from List.replicate_succ',List.append_assoc];rfl
 ·simp only [nY,List.length_append,List.length_cons,List.length_replicate,fh,hN]
  rw [fU (by omega),ad (by omega)]
  generalize hP:a0++(128:Int) :: List.replicate ((55-(N:Int))%64).toNat 0=P
  have hPl:P.length≤N+64:=by rw [← hP,← hN];simp;omega
  simp only [yc,uv,yb,qa,uw,x9,x8,oj,hN]
  rw [K0 (x:=(N:Int)) (by omega) (by omega)]
  generalize hM:IntKind.u64.wrap (8*(N:Int))=M
  refine aH (fun j=>(M,(j:Int),P++(List.range j).map fun i=>IntKind.u8.wrap (M.fdiv (2^(56-8*i))))) 8 (by simp) (fun j hj k'=>?_) (fun k'=>?_) 65 (by omega)
  ·simp only [nZ,List.length_append,List.length_map,List.length_range]
   rw [ah (x:=8*(j:Int)) (by omega) (by omega),ah (x:=56-8*(j:Int)) (by omega) (by omega),ah (x:=(j:Int)+1) (by omega) (by omega),aa (by omega),aa (by omega),aa (by omega)]
   rw [show min (56-8*(j:Int)).toNat 64=56-8*j by omega,List.range_succ,List.map_append,List.append_assoc]
   rfl
  ·simp only [nZ]
   rw [ad (by omega)]
   simp only [ya]
   have hpad:P++(List.range 8).map (fun i=>IntKind.u8.wrap (M.fdiv (2^(56-8*i))))=Sha.padded a0:=by
    rw [← hP,← hM,List.append_assoc];unfold Sha.padded;rw [hN];rfl
   rw [hpad]
theorem c107:Ck 107 Zh:=ck a17 Tryz.func107 (by
 intro X H r H' h hX hH
 unfold Zh at h;split at h <;> try contradiction
 ·obtain⟨hp,rfl,rfl⟩:=aJ h
  obtain⟨F,hF⟩:=a3h _ hp (hX _ hm0)
  exact⟨_,abC (Mt F) hF⟩)
def a3i:List aF:=[(107,[some 5],Zh),(108,[some 5],Zf),(109,[none,none],Ma)]
def V99:Env:=ar aE eo a3i
noncomputable abbrev bE:=aI V99 none (Tryz.f99).results.toList
theorem a3j:EOk Tryz.prog V99:=aj (by exact⟨c107.more dN,c108.more dN,a3f.more dN,trivial⟩)
def a3k(F:Nat):Cuts:={ F:=F,at_:=fun n=>match n with | 4047=>some bT | 9028=>some L8 | 24010=>some L9 | _=>none,join:=fun n=>match n with | 1076=>some nU | 2074=>some sp2 | 3072=>some aZ8 | 4049=>some bT | 5001=>some bT | 6041=>some bT | 7036=>some aZ9 | 8034=>some a0a | 9030=>some L8 | 21001=>some xN | 22020=>some sp6 | 23018=>some a0d | 24012=>some L9 | 27003=>some xO | _=>none }
abbrev bF(F n:Nat){σ:Type}(e:σ→St)(K:Ex→St→Rz)(N:σ→Rz):=Qe V99 (a3k F) (bp Tryz.f99 n) e K N
def SL:Li→St:=fun a=>hS [(0,(z9 a))] [] 164 0
def Fp:Li×Li→St:=fun (a,b)=>hS [(0,(z9 a)),pS 2 0 32] [z6 b] 164 0
def Fq:Ty0→St:=fun (a,b,c)=>hS [(0,(z9 a)),pS 2 0 32,pS 3 1 8] [z6 b,z7 c] 164 0
def uy:Ty0→St:=fun (b,c,a)=>hS [pS 2 0 32,pS 3 1 8,(4,.own 2 0 1)] [z6 b,z7 c,z8 a.length a] 164 0
def lO:cO→St:=fun (b,c,d,a)=>hS [pS 2 0 32,pS 3 1 8,(4,.own 2 0 1),iS 5 b] [z6 c,z7 d,z8 a.length a] 164 0
def bz:cO→St:=lO
def ol:cO→St:=lO
def Ft:Ty9→St:=fun (b,c,d,a,e)=>hS [pS 2 0 32,pS 3 1 8,(4,.own 2 0 1),iS 5 b,pS 6 3 64] [z6 c,z7 d,z8 a.length a,z4 e] 164 0
def uz:Zd→St:=fun (b,c,d,e,f,g,h,i,j,k,l,a,m)=>hS [pS 2 0 32,pS 3 1 8,(4,.own 2 0 1),iS 5 b,pS 6 3 64,(7,.int .u32 c),(8,.int .u32 d),(9,.int .u32 e),(10,.int .u32 f),(11,.int .u32 g),(12,.int .u32 h),(13,.int .u32 i),(14,.int .u32 j)] [z6 k,z7 l,z8 a.length a,z4 m] 164 0
def uA:rH→St:=fun (b,c,d,e,f,g,h,i,j,k,l,m,a,n)=>hS [pS 2 0 32,pS 3 1 8,(4,.own 2 0 1),iS 5 b,pS 6 3 64,(7,.int .u32 c),(8,.int .u32 d),(9,.int .u32 e),(10,.int .u32 f),(11,.int .u32 g),(12,.int .u32 h),(13,.int .u32 i),(14,.int .u32 j),iS 15 k] [z6 l,z7 m,z8 a.length a,z4 n] 164 0
def SN:rH→St:=uA
def i5:Fg→St:=fun (b,c,d,e,f,g,h,i,j,k,l,a)=>hS [pS 2 0 32,pS 3 1 8,(4,.own 2 0 1),iS 5 b,(7,.int .u32 c),(8,.int .u32 d),(9,.int .u32 e),(10,.int .u32 f),(11,.int .u32 g),(12,.int .u32 h),(13,.int .u32 i),(14,.int .u32 j)] [z6 k,z7 l,z8 a.length a] 164 0
def ca:cO→St:=lO
def aQ:Li×Li→St:=fun (a,b)=>hS [pS 2 0 32,pS 3 1 8] [z6 a,z7 b] 164 0
def qb:Ty0→St:=fun (a,b,c)=>hS [pS 2 0 32,pS 3 1 8,pS 18 2 32] [z6 a,z7 b,z6 c] 164 0
def qc:cO→St:=fun (a,b,c,d)=>hS [pS 2 0 32,pS 3 1 8,pS 18 2 32,iS 19 a] [z6 b,z7 c,z6 d] 164 0
def SO:cO→St:=qc
def gb:Li×Li→St:=fun (a,b)=>hS [pS 2 0 32,pS 18 1 32] [z6 a,z6 b] 164 0
def AM(F:Nat)(a:Li×Li→Rz):Li→Rz:=fun b=>(a (b,(List.replicate 32 0)))
theorem Zi F Rj1:bF F 2 SL (kq V99 Rj1 nU bE) (AM F (Rj1∘Fp)):=fun _=>by kernel_rfl
def AN(F:Nat)(a:Ty0→Rz):Li×Li→Rz:=fun (b,c)=>(a (b,c,[(1779033703:Int),(3144134277:Int),(1013904242:Int),(2773480762:Int),(1359893119:Int),(2600822924:Int),(528734635:Int),(1541459225:Int)]))
theorem Zj F Rj2:bF F 6 Fp (kq V99 Rj2 sp2 bE) (AN F (Rj2∘Fq)):=fun _=>by kernel_rfl
def AO(F:Nat)(b:Ty0→Rz):Ty0→Rz:=fun (a,c,d)=>(cond (decide (a.length < 1073741000)) (b (c,d,(Sha.padded a))) none)
theorem Zk F Rj3:bF F 14 Fq (kq V99 Rj3 aZ8 bE) (AO F (Rj3∘uy)):=fun _=>by kernel_rfl
def AQ(F:Nat)(a:cO→Rz)(e:Li×Li→Rz):Ty0→Rz:=fun (b,c,d)=>(a ((0:Int),b,c,d))
theorem Zl F Rj4 Rj11:bF F 60 uy (kq V99 Rj4 bT (kq V99 Rj11 sp6 bE)) (AQ F (Rj4∘lO) (Rj11∘aQ)):=fun _=>by kernel_rfl
def uB(F:Nat)(e g:cO→Rz)(f:Li×Li→Rz):cO→Rz:=fun (a,b,c,d)=>(cond (decide (a < (↑d.length:Int))) (e (a,b,c,d)) (f (b,c)))
theorem Zm F Rj5 Rl1 Rj11:bF F 488 bz (kq V99 Rj5 bT (kq V99 Rl1 bT (ae 0 (kq V99 Rj11 sp6 bE)))) (uB F (Rj5∘ol) (Rl1∘bz) (Rj11∘aQ)):=fun _=>by kernel_rfl
def AU(F:Nat)(c:Ty9→Rz)(f g:cO→Rz)(h:Li×Li→Rz):cO→Rz:=fun (a,d,e,b)=>(cond (((decide (0≤a))&&(decide (a≤(IntKind.i64.wrap (a+(64:Int))))))&&(decide ((IntKind.i64.wrap (a+(64:Int)))≤(↑b.length:Int)))) (cond (decide (64≤((b.drop (Int.toNat a)).take ((Int.toNat (IntKind.i64.wrap (a+(64:Int))))-(Int.toNat a))).length)) (c (a,d,e,b,(Sha.sched ((b.drop (Int.toNat a)).take ((Int.toNat (IntKind.i64.wrap (a+(64:Int))))-(Int.toNat a))) 64))) none) none)
theorem Zn F Rj6 Rj10 Rl1 Rj11:bF F 3912 ol (kq V99 Rj6 aZ9 (ae 1 (kq V99 Rj10 bT (kq V99 Rl1 bT (ae 0 (kq V99 Rj11 sp6 bE)))))) (AU F (Rj6∘Ft) (Rj10∘ca) (Rl1∘bz) (Rj11∘aQ)):=fun _=>by kernel_rfl
def AW(F:Nat)(b:Zd→Rz)(g h:cO→Rz)(i:Li×Li→Rz):Ty9→Rz:=fun (c,d,a,e,f)=>(b (c,(a.getD 0 0),(a.getD 1 0),(a.getD 2 0),(a.getD 3 0),(a.getD 4 0),(a.getD 5 0),(a.getD 6 0),(a.getD 7 0),d,a,e,f))
theorem Zo F Rj7 Rj10 Rl1 Rj11:bF F 7826 Ft (kq V99 Rj7 a0a (ae 1 (kq V99 Rj10 bT (kq V99 Rl1 bT (ae 0 (kq V99 Rj11 sp6 bE)))))) (AW F (Rj7∘uz) (Rj10∘ca) (Rl1∘bz) (Rj11∘aQ)):=fun _=>by kernel_rfl
def AX(F:Nat)(a:rH→Rz)(o:Fg→Rz)(p q:cO→Rz)(r:Li×Li→Rz):Zd→Rz:=fun (b,c,d,e,f,g,h,i,j,k,l,m,n)=>(a (b,c,d,e,f,g,h,i,j,(0:Int),k,l,m,n))
theorem Zp F Rj8 Rj9 Rj10 Rl1 Rj11:bF F 31308 uz (kq V99 Rj8 L8 (kq V99 Rj9 xN (ae 1 (kq V99 Rj10 bT (kq V99 Rl1 bT (ae 0 (kq V99 Rj11 sp6 bE))))))) (AX F (Rj8∘uA) (Rj9∘i5) (Rj10∘ca) (Rl1∘bz) (Rj11∘aQ)):=fun _=>by kernel_rfl
def uC(F:Nat)(o:rH→Rz)(p:Fg→Rz)(q r:cO→Rz)(s:Li×Li→Rz):rH→Rz:=fun (j,c,d,e,k,a,f,g,h,b,l,m,n,i)=>(cond (decide (b < (64:Int))) (cond ((decide (0≤(6:Int)))&&(decide ((6:Int)≤32))) (cond ((decide (0≤(11:Int)))&&(decide ((11:Int)≤32))) (cond ((decide (0≤(25:Int)))&&(decide ((25:Int)≤32))) (cond ((decide (0≤b))&&(decide (b < (64:Int)))) (cond ((decide (0≤b))&&(decide (b < (64:Int)))) (cond ((decide (0≤(2:Int)))&&(decide ((2:Int)≤32))) (cond ((decide (0≤(13:Int)))&&(decide ((13:Int)≤32))) (cond ((decide (0≤(22:Int)))&&(decide ((22:Int)≤32))) (o (j,(IntKind.u32.wrap ((IntKind.u32.wrap ((IntKind.u32.wrap ((IntKind.u32.wrap ((IntKind.u32.wrap (h+(af .xor .u32 (af .xor .u32 (Sha.rotr a (Int.toNat (6:Int))) (Sha.rotr a (Int.toNat (11:Int)))) (Sha.rotr a (Int.toNat (25:Int))))))+(af .xor .u32 (af .and .u32 a f) (af .and .u32 (af .xor .u32 a (4294967295:Int)) g))))+(Sha.K.getD (Int.toNat b) 0)))+(i.getD (Int.toNat b) 0)))+(IntKind.u32.wrap ((af .xor .u32 (af .xor .u32 (Sha.rotr c (Int.toNat (2:Int))) (Sha.rotr c (Int.toNat (13:Int)))) (Sha.rotr c (Int.toNat (22:Int))))+(af .xor .u32 (af .xor .u32 (af .and .u32 c d) (af .and .u32 c e)) (af .and .u32 d e)))))),c,d,e,(IntKind.u32.wrap (k+(IntKind.u32.wrap ((IntKind.u32.wrap ((IntKind.u32.wrap ((IntKind.u32.wrap (h+(af .xor .u32 (af .xor .u32 (Sha.rotr a (Int.toNat (6:Int))) (Sha.rotr a (Int.toNat (11:Int)))) (Sha.rotr a (Int.toNat (25:Int))))))+(af .xor .u32 (af .and .u32 a f) (af .and .u32 (af .xor .u32 a (4294967295:Int)) g))))+(Sha.K.getD (Int.toNat b) 0)))+(i.getD (Int.toNat b) 0))))),a,f,g,(IntKind.i64.wrap (b+(1:Int))),l,m,n,i)) none) none) none) none) none) none) none) none) (p (j,c,d,e,k,a,f,g,h,l,m,n)))
theorem Zq F Rl2 Rj9 Rj10 Rl1 Rj11:bF F 125236 SN (kq V99 Rl2 L8 (ae 2 (kq V99 Rj9 xN (ae 1 (kq V99 Rj10 bT (kq V99 Rl1 bT (ae 0 (kq V99 Rj11 sp6 bE)))))))) (uC F (Rl2∘SN) (Rj9∘i5) (Rj10∘ca) (Rl1∘bz) (Rj11∘aQ)):=fun _=>by kernel_rfl
def rN:rH→Int×Int×Int×Int×Int×Int×Int×Int×Int×Int×Li×Li×Li×Li:=fun (a,b,c,d,e,f,g,h,i,j,k,l,m,n)=>(a,b,c,d,e,f,g,h,i,j,k,l,m,n)
def Fu(F:Nat)(a:Fg→Rz)(b c:cO→Rz)(d:Li×Li→Rz):rH→Rz:=fun v=>ay (fun k=>uC F k a b c d) F (rN v)
theorem SQ F Rj9 Rj10 Rl1 Rj11:bF F 62618 uA (ae 2 (kq V99 Rj9 xN (ae 1 (kq V99 Rj10 bT (kq V99 Rl1 bT (ae 0 (kq V99 Rj11 sp6 bE))))))) (Fu F (Rj9∘i5) (Rj10∘ca) (Rl1∘bz) (Rj11∘aQ)):=lpC rN (fun k=>uC F k (Rj9∘i5) (Rj10∘ca) (Rl1∘bz) (Rj11∘aQ)) (fun Rl2=>Zq F Rl2 Rj9 Rj10 Rl1 Rj11)
def Fv(F:Nat)(a)(b c)(d):=Fu F a b c d
theorem SR F Rj9 Rj10 Rl1 Rj11:bF F 31309 uA (kq V99 Rj9 xN (ae 1 (kq V99 Rj10 bT (kq V99 Rl1 bT (ae 0 (kq V99 Rj11 sp6 bE)))))) (Fv F (Rj9∘i5) (Rj10∘ca) (Rl1∘bz) (Rj11∘aQ)):=biC (SQ F Rj9 Rj10 Rl1 Rj11)
def uD(F:Nat)(a)(b c)(d):=AX F (Fv F a b c d) a b c d
theorem SS F Rj9 Rj10 Rl1 Rj11:bF F 15654 uz (kq V99 Rj9 xN (ae 1 (kq V99 Rj10 bT (kq V99 Rl1 bT (ae 0 (kq V99 Rj11 sp6 bE)))))) (uD F (Rj9∘i5) (Rj10∘ca) (Rl1∘bz) (Rj11∘aQ)):=sqC (fun k=>AX F k (Rj9∘i5) (Rj10∘ca) (Rl1∘bz) (Rj11∘aQ)) (fun Rj8=>Zp F Rj8 Rj9 Rj10 Rl1 Rj11) (SR F Rj9 Rj10 Rl1 Rj11)
def Fw(F:Nat)(b n:cO→Rz)(o:Li×Li→Rz):Fg→Rz:=fun (c,d,e,f,g,h,i,j,k,l,a,m)=>(b (c,l,[(IntKind.u32.wrap ((a.getD 0 0)+d)),(IntKind.u32.wrap ((a.getD 1 0)+e)),(IntKind.u32.wrap ((a.getD 2 0)+f)),(IntKind.u32.wrap ((a.getD 3 0)+g)),(IntKind.u32.wrap ((a.getD 4 0)+h)),(IntKind.u32.wrap ((a.getD 5 0)+i)),(IntKind.u32.wrap ((a.getD 6 0)+j)),(IntKind.u32.wrap ((a.getD 7 0)+k))],m))
theorem SU F Rj10 Rl1 Rj11:bF F 15655 i5 (ae 1 (kq V99 Rj10 bT (kq V99 Rl1 bT (ae 0 (kq V99 Rj11 sp6 bE))))) (Fw F (Rj10∘ca) (Rl1∘bz) (Rj11∘aQ)):=fun _=>by kernel_rfl
def Fx(F:Nat)(a b)(c):=uD F (Fw F a b c) a b c
theorem SV F Rj10 Rl1 Rj11:bF F 7827 uz (ae 1 (kq V99 Rj10 bT (kq V99 Rl1 bT (ae 0 (kq V99 Rj11 sp6 bE))))) (Fx F (Rj10∘ca) (Rl1∘bz) (Rj11∘aQ)):=sqC (fun k=>uD F k (Rj10∘ca) (Rl1∘bz) (Rj11∘aQ)) (fun Rj9=>SS F Rj9 Rj10 Rl1 Rj11) (SU F Rj10 Rl1 Rj11)
def Fy(F:Nat)(a b)(c):=AW F (Fx F a b c) a b c
theorem SX F Rj10 Rl1 Rj11:bF F 3913 Ft (ae 1 (kq V99 Rj10 bT (kq V99 Rl1 bT (ae 0 (kq V99 Rj11 sp6 bE))))) (Fy F (Rj10∘ca) (Rl1∘bz) (Rj11∘aQ)):=sqC (fun k=>AW F k (Rj10∘ca) (Rl1∘bz) (Rj11∘aQ)) (fun Rj7=>Zo F Rj7 Rj10 Rl1 Rj11) (SV F Rj10 Rl1 Rj11)
def Fz(F:Nat)(a b)(c):=AU F (Fy F a b c) a b c
theorem SY F Rj10 Rl1 Rj11:bF F 1956 ol (ae 1 (kq V99 Rj10 bT (kq V99 Rl1 bT (ae 0 (kq V99 Rj11 sp6 bE))))) (Fz F (Rj10∘ca) (Rl1∘bz) (Rj11∘aQ)):=sqC (fun k=>AU F k (Rj10∘ca) (Rl1∘bz) (Rj11∘aQ)) (fun Rj6=>Zn F Rj6 Rj10 Rl1 Rj11) (SX F Rj10 Rl1 Rj11)
def uE(F:Nat)(a b)(c):=Fz F a b c
theorem SZ F Rj10 Rl1 Rj11:bF F 978 ol (kq V99 Rj10 bT (kq V99 Rl1 bT (ae 0 (kq V99 Rj11 sp6 bE)))) (uE F (Rj10∘ca) (Rl1∘bz) (Rj11∘aQ)):=biC (SY F Rj10 Rl1 Rj11)
def uF(F:Nat)(a:cO→Rz)(f:Li×Li→Rz):cO→Rz:=fun (b,c,d,e)=>(a ((IntKind.i64.wrap (b+(64:Int))),c,d,e))
theorem S2 F Rl1 Rj11:bF F 979 ca (kq V99 Rl1 bT (ae 0 (kq V99 Rj11 sp6 bE))) (uF F (Rl1∘bz) (Rj11∘aQ)):=fun _=>by kernel_rfl
def FA(F:Nat)(a)(b):=uE F (uF F a b) a b
theorem S4 F Rl1 Rj11:bF F 489 ol (kq V99 Rl1 bT (ae 0 (kq V99 Rj11 sp6 bE))) (FA F (Rl1∘bz) (Rj11∘aQ)):=sqC (fun k=>uE F k (Rl1∘bz) (Rj11∘aQ)) (fun Rj10=>SZ F Rj10 Rl1 Rj11) (S2 F Rl1 Rj11)
def om(F:Nat)(a)(b):=uB F (FA F a b) a b
theorem S5 F Rl1 Rj11:bF F 244 bz (kq V99 Rl1 bT (ae 0 (kq V99 Rj11 sp6 bE))) (om F (Rl1∘bz) (Rj11∘aQ)):=sqC (fun k=>uB F k (Rl1∘bz) (Rj11∘aQ)) (fun Rj5=>Zm F Rj5 Rl1 Rj11) (S4 F Rl1 Rj11)
def rO:cO→Int×Li×Li×Li:=fun (a,b,c,d)=>(a,b,c,d)
def FB(F:Nat)(a:Li×Li→Rz):cO→Rz:=fun v=>ay (fun k=>om F k a) F (rO v)
theorem S6 F Rj11:bF F 122 lO (ae 0 (kq V99 Rj11 sp6 bE)) (FB F (Rj11∘aQ)):=lpC rO (fun k=>om F k (Rj11∘aQ)) (fun Rl1=>S5 F Rl1 Rj11)
def FC(F:Nat)(a):=FB F a
theorem S7 F Rj11:bF F 61 lO (kq V99 Rj11 sp6 bE) (FC F (Rj11∘aQ)):=biC (S6 F Rj11)
def uG(F:Nat)(a):=AQ F (FC F a) a
theorem S9 F Rj11:bF F 30 uy (kq V99 Rj11 sp6 bE) (uG F (Rj11∘aQ)):=sqC (fun k=>AQ F k (Rj11∘aQ)) (fun Rj4=>Zl F Rj4 Rj11) (S7 F Rj11)
def uH(F:Nat)(a:Ty0→Rz):Li×Li→Rz:=fun (b,c)=>(a (b,c,(List.replicate 32 0)))
theorem Ta F Rj12:bF F 62 aQ (kq V99 Rj12 a0d bE) (uH F (Rj12∘qb)):=fun _=>by kernel_rfl
def uI(F:Nat)(a:cO→Rz)(e:Li×Li→Rz):Ty0→Rz:=fun (b,c,d)=>(a ((0:Int),b,c,d))
theorem Tb F Rj13 Rj14:bF F 252 qb (kq V99 Rj13 L9 (kq V99 Rj14 xO bE)) (uI F (Rj13∘qc) (Rj14∘gb)):=fun _=>by kernel_rfl
def oq(F:Nat)(e:cO→Rz)(f:Li×Li→Rz):cO→Rz:=fun (a,b,c,d)=>(cond (decide (a < (32:Int))) (cond ((decide (0≤(IntKind.i64.wrap (Int.tdiv a (4:Int)))))&&(decide ((IntKind.i64.wrap (Int.tdiv a (4:Int))) < (8:Int)))) (cond (decide (0≤(IntKind.i64.wrap ((24:Int)-(IntKind.i64.wrap ((8:Int)*(Int.tmod a (4:Int)))))))) (cond ((decide (0≤a))&&(decide (a < (32:Int)))) (e ((IntKind.i64.wrap (a+(1:Int))),b,c,(d.set (Int.toNat a) (IntKind.u8.wrap (Int.fdiv (c.getD (Int.toNat (IntKind.i64.wrap (Int.tdiv a (4:Int)))) 0) (2^(min (Int.toNat (IntKind.i64.wrap ((24:Int)-(IntKind.i64.wrap ((8:Int)*(Int.tmod a (4:Int))))))) 32))))))) none) none) none) (f (b,d)))
theorem Tc F Rl3 Rj14:bF F 1012 SO (kq V99 Rl3 L9 (ae 4 (kq V99 Rj14 xO bE))) (oq F (Rl3∘SO) (Rj14∘gb)):=fun _=>by kernel_rfl
def rP:cO→Int×Li×Li×Li:=fun (a,b,c,d)=>(a,b,c,d)
def FD(F:Nat)(a:Li×Li→Rz):cO→Rz:=fun v=>ay (fun k=>oq F k a) F (rP v)
theorem Td F Rj14:bF F 506 qc (ae 4 (kq V99 Rj14 xO bE)) (FD F (Rj14∘gb)):=lpC rP (fun k=>oq F k (Rj14∘gb)) (fun Rl3=>Tc F Rl3 Rj14)
def FG(F:Nat)(a):=FD F a
theorem Te F Rj14:bF F 253 qc (kq V99 Rj14 xO bE) (FG F (Rj14∘gb)):=biC (Td F Rj14)
def uJ(F:Nat)(a):=uI F (FG F a) a
theorem Tf F Rj14:bF F 126 qb (kq V99 Rj14 xO bE) (uJ F (Rj14∘gb)):=sqC (fun k=>uI F k (Rj14∘gb)) (fun Rj13=>Tb F Rj13 Rj14) (Te F Rj14)
def Tg(F:Nat):Li×Li→Rz:=fun (b,a)=>(some ((.agg 32 (.rI .u8 a)),[]))
theorem Ti F:bF F 127 gb bE (Tg F):=fun _=>by kernel_rfl
def FH(F:Nat):=uJ F (Tg F)
theorem Tj F:bF F 63 qb bE (FH F):=sqC (uJ F) (fun Rj14=>Tf F Rj14) (Ti F)
def FI(F:Nat):=uH F (FH F)
theorem Tk F:bF F 31 aQ bE (FI F):=sqC (uH F) (fun Rj12=>Ta F Rj12) (Tj F)
def FK(F:Nat):=uG F (FI F)
theorem Tl F:bF F 15 uy bE (FK F):=sqC (uG F) (fun Rj11=>S9 F Rj11) (Tk F)
def FM(F:Nat):=AO F (FK F)
theorem Tm F:bF F 7 Fq bE (FM F):=sqC (AO F) (fun Rj3=>Zk F Rj3) (Tl F)
def FN(F:Nat):=AN F (FM F)
theorem Tn F:bF F 3 Fp bE (FN F):=sqC (AN F) (fun Rj2=>Zj F Rj2) (Tm F)
def FO(F:Nat):=AM F (FN F)
theorem Tp F:bF F 1 SL bE (FO F):=sqC (AM F) (fun Rj1=>Zi F Rj1) (Tn F)
def f99(F:Nat):Li→Rz:=FO F
def r99:aB:=fun X H=>match X,H with
 | [(.vs (.rI .u8 a0) 0 1)],[]=>some ((decide (a0.length < 1073741000)),(.agg 32 (.rI .u8 (Sha.hash a0))),[])
 | _,_=>none
theorem aY4(n:Int):((n+(Sha.pad n).length)%64=0):=by
 simp only [Sha.pad,Sha.be8,List.length_cons,List.length_append,List.length_replicate,List.length_map,List.length_range];omega
theorem a0e(n:Int):(Sha.pad n).length≤73:=by
 simp only [Sha.pad,Sha.be8,List.length_cons,List.length_append,List.length_replicate,List.length_map,List.length_range];omega
theorem Iq(a0:Li)(hl:a0.length < 4611686018427387904):Sha.hash a0=Sha.out (Sha.addS Sha.begin (Sha.padded a0)).1:=by
 have e:(Sha.addS Sha.begin a0).2.2=(a0.length:Int):=by
  show(Sha.addS (Sha.iv,List.replicate 64 0,0) a0).2.2=_
  rw [Sha.addS_n _ _ _ _ (by omega) (by omega),K0 (by omega) (by omega)];omega
 unfold Sha.hash Sha.fin Sha.padded
 rw [e,Sha.addS_append]
theorem Mv(m:Li)(i:Nat)(h:64*(i+1)≤m.length):(Sha.addS Sha.begin (m.take (64*(i+1)))).1=Sha.comp (Sha.addS Sha.begin (m.take (64*i))).1 ((m.drop (64*i)).take 64):=by
 have e1:m.take (64*(i+1))=m.take (64*i)++(m.drop (64*i)).take 64:=by rw [show 64*(i+1)=64*i+64 by omega,List.take_add]
 have hc:((m.drop (64*i)).take 64).length=64:=by rw [List.length_take,List.length_drop];omega
 rw [e1,Sha.addS_append]
 have hn:(Sha.addS Sha.begin (m.take (64*i))).2.2%64=0∧0≤(Sha.addS Sha.begin (m.take (64*i))).2.2∧(Sha.addS Sha.begin (m.take (64*i))).2.2≤18446744073709551615:=by
  have:(Sha.addS Sha.begin (m.take (64*i))).2.2=_:=Sha.addS_n (m.take (64*i)) Sha.iv (List.replicate 64 0) 0 (by omega) (by omega)
  rw [this,dy,List.length_take];omega
 have hb:(Sha.addS Sha.begin (m.take (64*i))).2.1.length=64:=(Sha.addS_lens _ _ rfl).2
 generalize Sha.addS Sha.begin (m.take (64*i))=s at *
 obtain⟨st,bl,n⟩:=s
 simp only at hn hb
 have:=Sha.addS_chunk ((m.drop (64*i)).take 64) st bl n hb hn.2.1 hn.2.2 (by omega)
 rw [this,if_pos (by omega)]
 simp only
 rw [show(n%64).toNat=0 by omega,List.take_zero,List.nil_append,hc,List.drop_of_length_le (l:=bl) (by omega),List.append_nil]
theorem s99(a0:Li)(hp:((decide (a0.length < 1073741000)))=true)(h0:okV (.vs (.rI .u8 a0) 0 1)):∃ F,f99 F a0=some ((.agg 32 (.rI .u8 (Sha.hash a0))),[]):=by
 have hl:a0.length < 1073741000:=of_decide_eq_true hp
 rw [Iq a0 (by omega)]
 have hm64:(Sha.padded a0).length%64=0:=by have:=aY4 (a0.length:Int);simp only [Sha.padded,List.length_append];omega
 have hmle:(Sha.padded a0).length≤a0.length+73:=by have:=a0e (a0.length:Int);simp only [Sha.padded,List.length_append];omega
 refine⟨(Sha.padded a0).length+65,?_⟩
 simp only [f99,FO,AM,FN,AN,FM,AO,FK,uG,AQ,FC,FB,rO]
 rw [hp,cond_true]
 generalize Sha.padded a0=m at *
 generalize hF:m.length+65=F
 refine aH (fun i=>(((64*i:Nat):Int),List.replicate 32 0,(Sha.addS Sha.begin (m.take (64*i))).1,m)) (m.length / 64) (by rfl) (fun i hi k=>?_) (fun k=>?_) F (by omega)
 ·simp only [uB,om,Fz,FA,uE,uF,AU,Fy]
  rw [ap,ap,ah (x:=((64*i:Nat):Int)+64) (by omega) (by omega),aa (by omega),aa (by omega)]
  rw [show(((64*i:Nat):Int)+64).toNat-(((64*i:Nat):Int)).toNat=64 by omega,Int.toNat_natCast,aa (by rw [List.length_take,List.length_drop];omega)]
  have hb:=Mv m i (by omega)
  have h8:(Sha.addS Sha.begin (m.take (64*i))).1.length=8:=(Sha.addS_lens _ _ rfl).1
  rw [hb]
  generalize (Sha.addS Sha.begin (m.take (64*i))).1=st at *
  generalize (m.drop (64*i)).take 64=c at *
  simp only [AW,Fx,uD,AX,Fv,Fu,rN]
  refine aH (fun t=>(((64*i:Nat):Int),(Sha.rnds (Sha.sched c 64) (st.take 4,st.drop 4) t).1.getD 0 0,(Sha.rnds (Sha.sched c 64) (st.take 4,st.drop 4) t).1.getD 1 0,(Sha.rnds (Sha.sched c 64) (st.take 4,st.drop 4) t).1.getD 2 0,(Sha.rnds (Sha.sched c 64) (st.take 4,st.drop 4) t).1.getD 3 0,
   (Sha.rnds (Sha.sched c 64) (st.take 4,st.drop 4) t).2.getD 0 0,(Sha.rnds (Sha.sched c 64) (st.take 4,st.drop 4) t).2.getD 1 0,(Sha.rnds (Sha.sched c 64) (st.take 4,st.drop 4) t).2.getD 2 0,(Sha.rnds (Sha.sched c 64) (st.take 4,st.drop 4) t).2.getD 3 0,(t:Int),List.replicate 32 0,st,m,Sha.sched c 64)) 64 ?_ (fun t ht k'=>?_) (fun k'=>?_) F (by omega)
  ·obtain⟨b0,b1,b2,b3,b4,b5,b6,b7,rfl⟩:=aZ5 h8
   rfl
  ·simp only [uC,ap]
   rw [ah (x:=(t:Int)+1) (by omega) (by omega)]
   repeat rw [aa (by omega)]
   rw [Int.toNat_natCast,Sha.ibits_xor_comm .u32 _ 4294967295]
   rfl
  ·simp only [uC]
   rw [ad (by omega)]
   have e:((64*i:Nat):Int)+64=((64*(i+1):Nat):Int):=by omega
   simp only [Fw,uF]
   rw [ah (x:=((64*i:Nat):Int)+64) (by omega) (by omega),e]
   rfl
 ·simp only [uB,om]
  rw [ad (by omega),List.take_of_length_le (show m.length≤64*(m.length / 64) by omega)]
  generalize (Sha.addS Sha.begin m).1=R1
  simp only [FI,uH,FH,uJ,uI,FG,FD,rP]
  refine aH (fun i=>((i:Int),List.replicate 32 0,R1,(List.range i).map (fun i=>IntKind.u8.wrap ((R1.getD (i / 4) 0).fdiv (2^(24-8*(i%4)))))++List.replicate (32-i) 0)) 32 (by rfl) (fun i hi k''=>?_) (fun k''=>?_) F (by omega)
  ·simp only [oq,ap]
   rw [iw (by omega),fU (by omega),ah (x:=(i:Int) / 4) (by omega) (by omega),ah (x:=8*((i:Int)%4)) (by omega) (by omega),ah (x:=24-8*((i:Int)%4)) (by omega) (by omega),ah (x:=(i:Int)+1) (by omega) (by omega),
    aa (by omega),aa (by omega),aa (by omega),aa (by omega)]
   rw [show min (24-8*((i:Int)%4)).toNat 32=24-8*(i%4) by omega,show((i:Int) / 4).toNat=i / 4 by omega,Int.toNat_natCast,ru _ 0 32 i hi rfl]
   rfl
  ·simp only [oq]
   rw [ad (by omega),Nat.sub_self,List.replicate_zero,List.append_nil]
   rfl
theorem c99:CallOk Tryz.prog eo 99 r99:=dF mixed tys a3j Tryz.func99 (by kernel_rfl) (c:=sub (cZ Tryz.f99) []) (by kernel_rfl) (by
 intro X H r H' h hX hH
 unfold r99 at h;split at h <;> try contradiction
 ·obtain⟨hp,rfl,rfl⟩:=aJ h
  obtain⟨F,hF⟩:=s99 _ hp (hX _ hm0)
  exact⟨_,abC (Tp F) hF⟩)
end Go.Am
end