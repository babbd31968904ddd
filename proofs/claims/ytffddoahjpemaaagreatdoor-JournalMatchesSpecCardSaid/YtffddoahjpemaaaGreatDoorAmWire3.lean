/- Part of a proof. -/
import Derived.Test.YtffddoahjpemaaaGreatDoorAmTy
import Derived.KernelRfl
import Derived.Test.YtffddoahjpemaaaGreatDoorAmRow
import Derived.Test.YtffddoahjpemaaaGreatDoorAmOpen
set_option linter.unusedSimpArgs false
set_option linter.unusedVariables false
section
/- The table of types, checked by one closed look. -/
namespace Go.Am
open Go
mutual
def wfB:AV→Bool
 | .rI _ _=>true
 | .rB _=>true
 | .rS _=>true
 | .rL _ _=>true
 | .rT _ _=>true
 | .one v=>v.scal
 | .segs s=>aBV s
 | _=>false
def aBV:AVs→Bool
 | .nil=>true
 | .cons n v t=>wfB v&&(Nat.beq v.size n&&aBV t)
end
mutual
theorem aHQ:∀ (r:AV),wfB r=true→r.wf
 | .rI _ _,_=>trivial
 | .rB _,_=>trivial
 | .rS _,_=>trivial
 | .rL _ _,_=>trivial
 | .one v,h=>h
 | .segs s,h=>aA0 s h
 | .undef,h=>by simp [wfB] at h
 | .bool _,h=>by simp [wfB] at h
 | .int _ _,h=>by simp [wfB] at h
 | .str _,h=>by simp [wfB] at h
 | .rT _ _,_=>trivial
 | .agg _ _,h=>by simp [wfB] at h
 | .tup _,h=>by simp [wfB] at h
 | .nilp,h=>by simp [wfB] at h
 | .ptr _ _ _ _ _ _ _,h=>by simp [wfB] at h
 | .gp _ _ _ _ _ _,h=>by simp [wfB] at h
 | .ns,h=>by simp [wfB] at h
 | .own _ _ _,h=>by simp [wfB] at h
 | .sl _ _ _ _ _ _,h=>by simp [wfB] at h
 | .vs _ _ _,h=>by simp [wfB] at h
 | .mp _,h=>by simp [wfB] at h
 | .nilm,h=>by simp [wfB] at h
 | .fn _ _,h=>by simp [wfB] at h
 | .nilf,h=>by simp [wfB] at h
theorem aA0:∀ (s:AVs),aBV s=true→s.wfS
 | .nil,_=>trivial
 | .cons n v t,h=>by
  simp only [aBV,Bool.and_eq_true] at h
  exact⟨aHQ v h.1,Nat.eq_of_beq_eq_true h.2.1,aA0 t h.2.2⟩
end
def aBW(P:Program)(T:Tys)(t:Nat):Bool:=match (T.at t).d,P.underlying t with
 | .int k,some (.int k')=>decide (k=k')&&Nat.beq (T.at t).sz 1
 | .bool,some .bool=>Nat.beq (T.at t).sz 1
 | .str,some .string=>true
 | .ptr e,some (.pointer e')=>Nat.beq e e'
 | .slice e,some (.slice e')=>Nat.beq e e'
 | .arr n e,some (.array n' e')=>Nat.beq n n'&&Nat.beq e e'
 | .struct fs, some (.struct a) => decide (a.toList.map (fun f => (f.type, f.offset)) = fs) && (!(P.stoodInHeld t) && a.toList.all fun f => f.name != "_")
 | .map k e,some (.map k' e')=>Nat.beq k k'&&Nat.beq e e'
 | .func,d=>match d with
  | some (.struct _)=>false
  | some (.array _ _)=>false
  | some _=>true
  | none=>false
 | .other,d=>!(Nat.beq (T.at t).sz 1) || match d with
  | some (.struct _)=>false
  | some (.array _ _)=>false
  | some _=>true
  | none=>false
 | _,_=>false
def aBX(P:Program)(T:Tys)(t:Nat):Bool:=match zvar T 16 t with
 | none=>true
 | some r=>Nat.blt 0 (T.at t).sz&&(wfB r&&(Nat.beq r.size (T.at t).sz&&match P.info? t with
  | none=>false
  | some i=>match i.zero with
   | none=>false
   | some z=>(Nat.beq z.cells.size (T.at t).sz&&aggB z (T.at t).d.isAgg)&&(List.range (T.at t).sz).all fun j=>match concZ (r.cell j) with
    | some v=>veq v (z.cells.getD j Go.undef)
    | none=>false))
def aYk(P:Program)(T:Tys)(t:Nat):Bool:=match zkind T 8 t with
 | none=>true
 | some (k,c)=>Nat.blt 0 c&&(Nat.beq c (T.at t).sz&&match P.info? t with
  | none=>false
  | some i=>match i.zero with
   | none=>false
   | some z=>Nat.beq z.cells.size c&&(List.range c).all fun j=>veq (z.cells.getD j Go.undef) (k.zero j))
def tyB(P:Program)(T:Tys)(t:Nat):Bool:=(Nat.beq (T.at t).sz 0 || match P.info? t with
 | some i=>Nat.beq i.size (T.at t).sz&&Nat.ble i.bytes 65536
 | none=>false)&&(aBW P T t&&(aBX P T t&&aYk P T t))
def a73(P:Program)(T:Tys):Bool:=Nat.beq P.types.size T.length&&(List.range T.length).all (tyB P T)
theorem a74{P:Program}{T:Tys}{t:Nat}(h:tyB P T t=true):TyOk P T t:=by
 simp only [tyB,Bool.and_eq_true] at h
 obtain⟨h1,h2,h3,h4⟩:=h
 have hd:∀ {d},(T.at t).d=d→aBW P T t=true:=fun _=>h2
 unfold aBW at h2
 refine {
  size:=fun h0=>?_,int:=fun k hk=>?_,bool:=fun hk=>?_,int1:=fun k hk=>?_,bool1:=fun hk=>?_,str:=fun hk=>?_,ptr:=fun e hk=>?_,slice:=fun e hk=>?_,arr:=fun n e hk=>?_,struct:=fun fs hk=>?_,names:=fun fs hk a ha=>?_,map:=fun k e hk=>?_,
  one:=fun ha hs=>?_,bytes:=fun hz0 i hi=>?_,zero:=fun r hr=>?_,zagg:=fun r hr=>?_,kind:=fun k c hk=>?_ }
 ·rcases Bool.or_eq_true _ _▸h1 with h1 | h1
  ·have:=Nat.eq_of_beq_eq_true h1;omega
  ·split at h1
   ·rename_i i hi
    simp only [Bool.and_eq_true] at h1
    exact⟨i,hi,Nat.eq_of_beq_eq_true h1.1⟩
   ·contradiction
 ·rw [hk] at h2;split at h2 <;> simp_all
 ·rw [hk] at h2;split at h2 <;> simp_all
 ·rw [hk] at h2;split at h2 <;> simp_all
 ·rw [hk] at h2;split at h2 <;> simp_all
 ·rw [hk] at h2;split at h2 <;> simp_all
 ·rw [hk] at h2;split at h2 <;> simp_all
 ·rw [hk] at h2;split at h2 <;> simp_all
 ·rw [hk] at h2;split at h2 <;> simp_all
 ·rw [hk] at h2
  split at h2 <;> simp_all
 ·rw [hk,ha] at h2
  simp only [Bool.and_eq_true,List.all_eq_true,bne_iff_ne] at h2
  exact h2.2.2
 ·rw [hk] at h2;split at h2 <;> simp_all
 ·cases hdd:(T.at t).d with
  | int k=>rw [hdd] at h2;split at h2 <;> simp_all
  | bool=>rw [hdd] at h2;split at h2 <;> simp_all
  | str=>rw [hdd] at h2;split at h2 <;> simp_all
  | ptr e=>rw [hdd] at h2;split at h2 <;> simp_all
  | slice e=>rw [hdd] at h2;split at h2 <;> simp_all
  | arr n e=>rw [hdd] at ha;simp [TyD.isAgg] at ha
  | struct fs=>rw [hdd] at ha;simp [TyD.isAgg] at ha
  | map k e=>rw [hdd] at h2;split at h2 <;> simp_all
  | func=>
   rw [hdd] at h2
   simp only at h2
   split at h2 <;> try contradiction
   rename_i d hn1 hn2 e
   exact⟨d,e,fun fs h=>hn1 fs h,fun n e' h=>hn2 n e' h⟩
  | other=>
   rw [hdd] at h2
   simp only [hs,show Nat.beq 1 1=true from rfl,Bool.not_true,Bool.false_or] at h2
   split at h2 <;> try contradiction
   rename_i d hn1 hn2 e
   exact⟨d,e,fun fs h=>hn1 fs h,fun n e' h=>hn2 n e' h⟩
 ·rw [hi] at h1
  rcases Bool.or_eq_true _ _▸h1 with h1 | h1
  ·have:=Nat.eq_of_beq_eq_true h1;omega
  ·simp only [Bool.and_eq_true] at h1
   exact Nat.le_of_ble_eq_true h1.2
 ·unfold aBX at h3
  rw [hr] at h3
  simp only [Bool.and_eq_true,Nat.blt_eq] at h3
  obtain⟨g1,g2,g3,g4⟩:=h3
  refine⟨g1,aHQ r g2,Nat.eq_of_beq_eq_true g3,?_⟩
  split at g4 <;> try contradiction
  rename_i i hi
  split at g4 <;> try contradiction
  rename_i z hz
  simp only [Bool.and_eq_true,List.all_eq_true,List.mem_range] at g4
  refine⟨i,z,hi,hz,Nat.eq_of_beq_eq_true g4.1.1,fun j hj=>?_⟩
  have:=g4.2 j hj
  split at this
  ·rename_i v hv;rw [hv,aHn this]
  ·contradiction
 ·unfold aBX at h3
  rw [hr] at h3
  simp only [Bool.and_eq_true,Nat.blt_eq] at h3
  obtain⟨g1,g2,g3,g4⟩:=h3
  split at g4 <;> try contradiction
  rename_i i hi
  split at g4 <;> try contradiction
  rename_i z hz
  simp only [Bool.and_eq_true,List.all_eq_true,List.mem_range] at g4
  exact⟨i,z,hi,hz,g4.1.2⟩
 ·unfold aYk at h4
  rw [hk] at h4
  simp only [Bool.and_eq_true,Nat.blt_eq] at h4
  obtain⟨g1,g2,g4⟩:=h4
  refine⟨g1,Nat.eq_of_beq_eq_true g2,?_⟩
  split at g4 <;> try contradiction
  rename_i i hi
  split at g4 <;> try contradiction
  rename_i z hz
  simp only [Bool.and_eq_true,List.all_eq_true,List.mem_range] at g4
  exact⟨i,z,hi,hz,Nat.eq_of_beq_eq_true g4.1,fun j hj=>aHn (g4.2 j hj)⟩
theorem a7b{P:Program}{T:Tys}(h:a73 P T=true):TysOk P T:=by
 simp only [a73,Bool.and_eq_true,List.all_eq_true,List.mem_range] at h
 intro t
 by_cases ht:t < T.length
 ·exact a74 (h.2 t ht)
 ·have e:T.at t=⟨.other,0,0⟩:=by simp [Tys.at,List.getD_eq_getElem?_getD,List.getElem?_eq_none (Nat.le_of_not_lt ht)]
  refine {
   size:=fun h0=>?_,int:=fun k hk=>?_,bool:=fun hk=>?_,int1:=fun k hk=>?_,bool1:=fun hk=>?_,str:=fun hk=>?_,ptr:=fun e hk=>?_,slice:=fun e hk=>?_,arr:=fun n e hk=>?_,struct:=fun fs hk=>?_,names:=fun fs hk a ha=>?_,map:=fun k e hk=>?_,
   one:=fun ha hs=>?_,bytes:=fun hz0 i hi'=>?_,zero:=fun r hr=>?_,zagg:=fun r hr=>?_,kind:=fun k c hk=>?_ }
  all_goals first | (exfalso;simp_all [zvar,zkind];done) | skip
end Go.Am
end
section
/- How the executor is cut into pieces: one lemma for each kind of node. -/
namespace Go.Am
open Go
variable {α σ τ : Type} {V : Env} {A : Cuts}
theorem a7c{c a b:Code}(hc:c=.seq a b){spec:List (Nat×Md)}(hj:(Ey b).bind A.join=some spec)(eE:σ→St)(eB:τ→St)
  (K:Ex→St→Option α) (Na:(τ→Option α)→σ→Option α) (Nb:τ→Option α)
  (ha:∀ (R:St→Option α) v,ii V A a (eE v) (w9 (fun s=>R (zC V (some spec) s)) K)=Na (fun w=>R (eB w)) v)
  (hb:∀ w,ii V A b (eB w) K=Nb w):∀ v,ii V A c (eE v) K=Na Nb v:=by
 intro v
 subst hc
 rw [ii,hj,ha (fun s=>ii V A b s K) v]
 exact congrArg (fun g=>Na g v) (funext hb)
theorem a77{c a b:Code}(hc:c=.seq a b)(hj:(Ey b).bind A.join=none)(s:St)(K:Ex→St→Option α):
  ii V A c s K=ii V A a s (w9 (fun s=>ii V A b s K) K):=by
 subst hc
 rw [ii,hj]
 rfl
theorem aQU{c d:Code}{id:Nat}(hc:c=.block id d)(s:St)(K:Ex→St→Option α):ii V A c s K=ii V A d s (aV id K):=by
 subst hc;rfl
theorem aHR{d:Code}{spec:List (Nat×Md)}(hj:(Ey d).bind A.at_=some spec)(eL:τ→St)
  (K:Ex→St→Option α) (S:(τ→Option α)→τ→Option α)
  (hs:∀ (R:St→Option α) w,ii V A d (eL w) (w9 (fun s=>R (zC V (some spec) s)) K)=S (fun w=>R (eL w)) w) (n:Nat) (w:τ) :
  eT (fun R s=>ii V A d s (w9 (fun s=>R (zC V ((Ey d).bind A.at_) s)) K)) n (eL w)=eT S n w:=by
 rw [hj]
 induction n generalizing w with
 | zero=>rfl
 | succ n ih=>
  rw [eT,eT,hs]
  exact congrArg (fun g=>S g w) (funext ih)
theorem aQV{c d:Code}(hc:c=.loop d){spec:List (Nat×Md)}(hj:(Ey d).bind A.at_=some spec)(eE:σ→St)(eL:τ→St)
  (K:Ex→St→Option α) (i:σ→τ) (S:(τ→Option α)→τ→Option α)
  (hi:∀ v,zC V (some spec) (eE v)=eL (i v))
  (hs:∀ (R:St→Option α) w,ii V A d (eL w) (w9 (fun s=>R (zC V (some spec) s)) K)=S (fun w=>R (eL w)) w)
  (hp:(Ey d).map A.peel=some false:=by kernel_rfl) :
  ∀ v,ii V A c (eE v) K=eT S A.F (i v):=by
 intro v
 subst hc
 rw [ii,hp]
 have h:=aHR hj eL K S hs A.F (i v)
 rw [← hi,← hj] at h
 exact h
theorem a7d{c x y:Code}{o:Operand}(hc:c=.cond o x y)(eE:σ→St)(K:Ex→St→Option α)(b:σ→Bool)
  (ho:∀ v,ev V (eE v) o=.bool (b v)) (X Y:σ→Option α) (hx:∀ v,ii V A x (eE v) K=X v) (hy:∀ v,ii V A y (eE v) K=Y v) :
  ∀ v,ii V A c (eE v) K=cond (b v) (X v) (Y v):=by
 intro v
 subst hc
 rw [ii,ho,hx,hy]
theorem ai1{f:Func}{args:List AV}{H:List Blk}{c:Code}(hc:f.body=some c){s:St}
  (hs:{ tmps:=afc 0 args,heap:=tagH 0 H,next:=H.length,nt:=max args.length f.ntmps,m:=H.length }=s) :
  Et V A f args H=ii V A c s (ij V A.fin f.results.toList):=by
 subst hs
 rw [Et,hc]
end Go.Am
end
section
/- What the texts that are printed for a seat lean on. -/
namespace Go.Am
open Go
def pth:Nat→Nat→List Nat→List Nat
 | 0,_,l=>l
 | k+1,n,l=>match Nat.ble n 1 with
  | true=>l
  | false=>pth k (n / 2) (n%2 :: l)
abbrev bp(f:Func)(n:Nat):Code:=sub (zZ f) (pth 64 n [])
abbrev Rz:=Option (AV×List Blk)
abbrev kc(V:Env)(R:St→Rz)(spec:List (Nat×Md)):St→Rz:=fun s=>R (zC V (some spec) s)
abbrev eP:=List AV→List Blk→Option (Bool×AV×List Blk)
abbrev hI:=Nat×List (Option Nat)×eP
def apZ:List hI→Nat→Option (List (Option Nat)×eP)
 | [],_=>none
 | (g,m,r) :: l,f=>match Nat.beq f g with
  | true=>some (m,r)
  | false=>apZ l f
def dL(T:Tys)(G:Nat→Option AV)(l:List hI):Env:={ T:=T,G:=G,E:=apZ l }
def aYl(P:Program)(G:Nat→Option AV):List hI→Prop
 | []=>True
 | (f,_,r) :: l=>CallOk P G f r∧aYl P G l
theorem bL{P:Program}{T:Tys}{G:Nat→Option AV}:∀ {l:List hI},aYl P G l→EOk P (dL T G l)
 | [],_=>fun f m r h=>by simp [dL,apZ] at h
 | (g,m,r) :: l,hl=>fun f m' r' h=>by
  simp only [dL,apZ] at h
  split at h
  ·rename_i hb
   injection h with h;injection h with h1 h2
   subst h1;subst h2
   have:=Nat.eq_of_beq_eq_true hb
   subst this
   exact hl.1
  ·exact bL (T:=T) hl.2 f m' r' h
theorem CallOk.sub{P:Program}{G:Nat→Option AV}{f:Nat}{run run':eP}(h:CallOk P G f run)(g:∀ A H r H',run' A H=some (true,r,H')→run A H=some (true,r,H')):CallOk P G f run' where
 there:=h.there
 does:=fun A H r H' e=>h.does A H r H' (g A H r H' e)
theorem CallOk.or{P:Program}{G:Nat→Option AV}{f:Nat}{run run2 run':eP}(h:CallOk P G f run)(h2:CallOk P G f run2)(g:∀ A H r H',run' A H=some (true,r,H')→run A H=some (true,r,H')∨run2 A H=some (true,r,H')):CallOk P G f run' where
 there:=h.there
 does:=fun A H r H' e=>(g A H r H' e).elim (h.does A H r H') (h2.does A H r H')
theorem CallOk.more{P:Program}{G G':Nat→Option AV}{f:Nat}{run:eP}(h:CallOk P G f run)(hG:∀ g r,G g=some r→G' g=some r):CallOk P G' f run where
 there:=h.there
 does:=by
  intro A H r H' hr U w ρ args hini hs hargs
  have hs0:Sim U G w (WrO ρ (tagH 0 H)) ρ (hst H) emptyAct w:={
   tm:=hs.tm,nt:=hs.nt,df:=hs.df,bl:=hs.bl,sep:=hs.sep,dom:=hs.dom,fr:=hs.fr,wo:=hs.wo,sz:=hs.sz,gl:=fun g r hg=>hs.gl g r (hG g r hg),uo:=hs.uo,ug:=fun g r hg=>hs.ug g r (hG g r hg),su:=hs.su,ini:=hs.ini,im:=hs.im,sm:=hs.sm }
  refine(h.does A H r H' hr U w ρ args hini hs0 hargs).mono ?_
  rintro e w' ⟨v,ρ',he,h1,h2⟩
  exact⟨v,ρ',he,{
   tm:=h1.tm,nt:=h1.nt,df:=h1.df,bl:=h1.bl,sep:=h1.sep,dom:=h1.dom,fr:=h1.fr,wo:=h1.wo,sz:=h1.sz,gl:=hs.gl,uo:=h1.uo,ug:=hs.ug,su:=h1.su,ini:=h1.ini,im:=h1.im,sm:=h1.sm },h2⟩
theorem pv{σ α:Type}{step:(σ→Option α)→σ→Option α}{r:Option α}(I:Nat→σ→Prop)
  (h:∀ m s k,I m s→(∀ m' s',m' < m→I m' s'→k s'=r)→step k s=r):∀ (F m:Nat) (s:σ),m < F→I m s→eT step F s=r
 | 0,_,_,hm,_=>by omega
 | F+1,m,s,hm,hi=>h m s _ hi fun m' s' hm' hi'=>pv I h F m' s' (by omega) hi'
theorem azt{σ α:Type}{step:(σ→Option α)→σ→Option α}{r:Option α}(s:Nat→σ)(n:Nat)(h1:∀ i,i < n → ∀ k,step k (s i)=k (s (i+1)))(h2:∀ k,step k (s n)=r)(F:Nat)(hF:n < F):
  eT step F (s 0)=r:=
 pv (fun m t=>m≤n∧t=s (n-m)) (fun m t k hi hk=>by
  obtain⟨hm,rfl⟩:=hi
  cases m with
  | zero=>exact h2 k
  | succ m=>
   rw [h1 (n-(m+1)) (by omega) k]
   exact hk m _ (by omega) ⟨by omega,by rw [show n-(m+1)+1=n-m by omega]⟩) F n (s 0) hF ⟨Nat.le_refl _,by rw [Nat.sub_self]⟩
theorem iR{σ α:Type}{step:(σ→Option α)→σ→Option α}{r:Option α}{s0:σ}(s:Nat→σ)(n:Nat)(h0:s0=s 0)(h1:∀ i,i < n → ∀ k,step k (s i)=k (s (i+1)))(h2:∀ k,step k (s n)=r)(F:Nat)(hF:n < F):
  eT step F s0=r:=h0▸azt s n h1 h2 F hF
theorem bM{x:Int}(h1 : -9223372036854775808≤x)(h2:x≤9223372036854775807):IntKind.i64.wrap x=x:=by
 unfold IntKind.wrap;simp only [IntKind.signed,IntKind.bits];simp;omega
theorem aBY{x:Int}(h1:0≤x)(h2:x≤18446744073709551615):IntKind.u64.wrap x=x:=by
 unfold IntKind.wrap;simp only [IntKind.signed,IntKind.bits];simp;omega
theorem Wm{x:Int}(h1:0≤x)(h2:x≤4294967295):IntKind.u32.wrap x=x:=by
 unfold IntKind.wrap;simp only [IntKind.signed,IntKind.bits];simp;omega
theorem ahJ(x:Int):IntKind.u8.wrap x=x%256:=by
 unfold IntKind.wrap;simp only [IntKind.signed,IntKind.bits];simp
theorem DU(x:Int):IntKind.u64.wrap x=x%18446744073709551616:=by
 unfold IntKind.wrap;simp only [IntKind.signed,IntKind.bits];simp
theorem aK{α:Type}{p:Prop}[Decidable p]{a b:α}(h:p):cond (decide p) a b=a:=by simp [h]
theorem ba{α:Type}{p:Prop}[Decidable p]{a b:α}(h:¬ p):cond (decide p) a b=b:=by simp [h]
theorem cH{p q:Prop}[Decidable p][Decidable q]:(decide p&&decide q)=decide (p∧q):=by simp
theorem aA1{p:Prop}[Decidable p]:(!(decide p))=decide (¬ p):=by simp
theorem ant(x y:Int):(x==y)=decide (x=y):=by rw [Bool.eq_iff_iff];simp
theorem JX(x y:Int):(x != y)=decide (x≠y):=by rw [Bool.eq_iff_iff];simp
theorem agC{n:Nat}{k:IntKind}{xs:List Int}(h:okR n (.rI k xs)):xs.length=n∧anr k xs:=by
 obtain⟨_,h2,h3⟩:=h
 refine⟨h2,fun x hx=>?_⟩
 obtain⟨j,hj,rfl⟩:=List.mem_iff_getElem.mp hx
 have:=h3 j (by simp only [AV.size] at h2;omega)
 simp only [AV.cell,okC] at this
 rwa [List.getD_eq_getElem?_getD,List.getElem?_eq_getElem hj] at this
theorem ai2{α:Type}(g:Nat→α)(z:α)(n i:Nat)(h:i < n){v:α}(hv:v=g i):
  ((List.range i).map g++List.replicate (n-i) z).set i v=(List.range (i+1)).map g++List.replicate (n-(i+1)) z:=by
 subst hv
 rw [show n-i=(n-(i+1))+1 by omega,List.replicate_succ,List.set_append_right _ _ (by simp),List.range_succ,List.map_append]
 simp
theorem JY{x y:Int}(h:0≤x):Int.tmod x y=x%y:=Int.tmod_eq_emod_of_nonneg h
theorem Kx{x y:Int}(h:0≤x):Int.tdiv x y=x / y:=Int.tdiv_eq_ediv_of_nonneg h
theorem ahK{α:Type}(d:α){a b:List α}(hl:a.length=b.length)(h:∀ i,i < a.length→a.getD i d=b.getD i d):a=b:=by
 refine List.ext_getElem hl fun i h1 h2=>?_
 have:=h i h1
 rwa [List.getD_eq_getElem?_getD,List.getD_eq_getElem?_getD,List.getElem?_eq_getElem h1,List.getElem?_eq_getElem h2] at this
theorem bh{n:Nat}{r:AV}{c:Bool}(h:okB (.cells n r c))(hl:r.leafB=true):n=r.size:=by
 cases r <;> first | (simp [AV.leafB] at hl;done) | exact h.2.1.symm
end Go.Am

namespace Go.Am
theorem hm0{α:Type}{x0:α}{l:List α}:x0∈x0 :: l:=.head _
theorem hm1{α:Type}{x0 x1:α}{l:List α}:x1∈x0::x1 :: l:=.tail _ (.head _)
theorem hm2{α:Type}{x0 x1 x2:α}{l:List α}:x2∈x0::x1::x2 :: l:=.tail _ (.tail _ (.head _))
theorem hm3{α:Type}{x0 x1 x2 x3:α}{l:List α}:x3∈x0::x1::x2::x3 :: l:=.tail _ (.tail _ (.tail _ (.head _)))
theorem hm4{α:Type}{x0 x1 x2 x3 x4:α}{l:List α}:x4∈x0::x1::x2::x3::x4 :: l:=.tail _ (.tail _ (.tail _ (.tail _ (.head _))))
theorem hm5{α:Type}{x0 x1 x2 x3 x4 x5:α}{l:List α}:x5∈x0::x1::x2::x3::x4::x5 :: l:=.tail _ (.tail _ (.tail _ (.tail _ (.tail _ (.head _)))))
theorem hm6{α:Type}{x0 x1 x2 x3 x4 x5 x6:α}{l:List α}:x6∈x0::x1::x2::x3::x4::x5::x6 :: l:=.tail _ (.tail _ (.tail _ (.tail _ (.tail _ (.tail _ (.head _))))))
theorem hm7{α:Type}{x0 x1 x2 x3 x4 x5 x6 x7:α}{l:List α}:x7∈x0::x1::x2::x3::x4::x5::x6::x7 :: l:=.tail _ (.tail _ (.tail _ (.tail _ (.tail _ (.tail _ (.tail _ (.head _)))))))
theorem hm8{α:Type}{x0 x1 x2 x3 x4 x5 x6 x7 x8:α}{l:List α}:x8∈x0::x1::x2::x3::x4::x5::x6::x7::x8 :: l:=.tail _ (.tail _ (.tail _ (.tail _ (.tail _ (.tail _ (.tail _ (.tail _ (.head _))))))))
theorem hm9{α:Type}{x0 x1 x2 x3 x4 x5 x6 x7 x8 x9:α}{l:List α}:x9∈x0::x1::x2::x3::x4::x5::x6::x7::x8::x9 :: l:=.tail _ (.tail _ (.tail _ (.tail _ (.tail _ (.tail _ (.tail _ (.tail _ (.tail _ (.head _)))))))))
theorem a78{α:Type}{x0 x1 x2 x3 x4 x5 x6 x7 x8 x9 x10:α}{l:List α}:x10∈x0::x1::x2::x3::x4::x5::x6::x7::x8::x9::x10 :: l:=.tail _ (.tail _ (.tail _ (.tail _ (.tail _ (.tail _ (.tail _ (.tail _ (.tail _ (.tail _ (.head _))))))))))
theorem baA{α:Type}{x0 x1 x2 x3 x4 x5 x6 x7 x8 x9 x10 x11:α}{l:List α}:x11∈x0::x1::x2::x3::x4::x5::x6::x7::x8::x9::x10::x11 :: l:=.tail _ (.tail _ (.tail _ (.tail _ (.tail _ (.tail _ (.tail _ (.tail _ (.tail _ (.tail _ (.tail _ (.head _)))))))))))
theorem baB{α:Type}{x0 x1 x2 x3 x4 x5 x6 x7 x8 x9 x10 x11 x12:α}{l:List α}:x12∈x0::x1::x2::x3::x4::x5::x6::x7::x8::x9::x10::x11::x12 :: l:=.tail _ (.tail _ (.tail _ (.tail _ (.tail _ (.tail _ (.tail _ (.tail _ (.tail _ (.tail _ (.tail _ (.tail _ (.head _))))))))))))
theorem a79{α:Type}{x0 x1 x2 x3 x4 x5 x6 x7 x8 x9 x10 x11 x12 x13:α}{l:List α}:x13∈x0::x1::x2::x3::x4::x5::x6::x7::x8::x9::x10::x11::x12::x13 :: l:=.tail _ (.tail _ (.tail _ (.tail _ (.tail _ (.tail _ (.tail _ (.tail _ (.tail _ (.tail _ (.tail _ (.tail _ (.tail _ (.head _)))))))))))))
theorem ik{α β γ:Type}{a x:α}{b y:β}{c z:γ}(h:some (a,b,c)=some (x,y,z)):a=x∧b=y∧c=z:=by cases h;exact⟨rfl,rfl,rfl⟩
end Go.Am
namespace Go.Am
section
variable {σ τ:Type}{V:Env}{A:Cuts}
def Qe {σ:Type}(V:Env)(A:Cuts)(c:Code)(e:σ→St)(K:Ex→St→Rz)(N:σ→Rz):Prop:=∀ v,ii V A c (e v) K=N v
abbrev kq(V:Env)(R:St→Rz)(sp:List (Nat×Md))(K:Ex→St→Rz):Ex→St→Rz:=w9 (kc V R sp) K
theorem sqC {c a b:Code}{p:List (Nat×Md)}{e:σ→St}{d:τ→St}{K:Ex→St→Rz}(M:(τ→Rz)→σ→Rz){N:τ→Rz}(ha:∀ R,Qe V A a e (kq V R p K) (M (R∘d)))(hb:Qe V A b d K N)(hc:c=.seq a b:=by kernel_rfl)(hj:(Ey b).bind A.join=some p:=by kernel_rfl):Qe V A c e K (M N):=a7c hc hj e d K M N ha hb
theorem biC {c d:Code}{n:Nat}{e:σ→St}{K:Ex→St→Rz}{N:σ→Rz}(h:Qe V A d e (aV n K) N)(hc:c=.block n d:=by kernel_rfl):Qe V A c e K N:=fun v=>(aQU hc _ _).trans (h v)
theorem lpC {c d:Code}{p:List (Nat×Md)}{e:σ→St}{l:τ→St}{K:Ex→St→Rz}(i:σ→τ)(S:(τ→Rz)→τ→Rz)(hs:∀ R,Qe V A d l (kq V R p K) (S (R∘l)))(hi:∀ v,zC V (some p) (e v)=l (i v):=by intro v;kernel_rfl)(hc:c=.loop d:=by kernel_rfl)(hj:(Ey d).bind A.at_=some p:=by kernel_rfl)(hp:(Ey d).map A.peel=some false:=by kernel_rfl):Qe V A c e K (fun v=>eT S A.F (i v)):=aQV hc hj e l K i S hi hs hp
theorem abC {f:Func}{X:List AV}{H:List Blk}{c:Code}{e:σ→St}{K:Ex→St→Rz}{N:σ→Rz}(h:Qe V A c e K N){v:σ}{r:Rz}(hF:N v=r)(hs:({ tmps:=afc 0 X,heap:=tagH 0 H,next:=H.length,nt:=max X.length f.ntmps,m:=H.length }:St)=e v:=by kernel_rfl)(hK:K=ij V A.fin f.results.toList:=by kernel_rfl)(hc:f.body=some c:=by kernel_rfl):Et V A f X H=r:=by
 subst hK;exact ((ai1 hc hs).trans (h v)).trans hF
end
end Go.Am
namespace Go.Am
abbrev hS(t:List (Nat×AV))(h:List Blk)(n m:Nat):St:=⟨t,tagH 0 h,h.length,n,m⟩
abbrev pS(s k n:Nat):Nat×AV:=(s,.ptr k 0 n 0 0 0 n)
abbrev iS(s:Nat)(x:Int):Nat×AV:=(s,.int .i64 x)
abbrev lS(s:Nat)(x:List Int):Nat×AV:=(s,.vs (.rI .i64 x) 0 1)
end Go.Am
end
section
/- SHA-256, as plain functions on lists of integers. -/
namespace Go.Am.Sha
open Go
def K:List Int:=[1116352408,1899447441,3049323471,3921009573,961987163,1508970993,2453635748,2870763221,3624381080,310598401,607225278,1426881987,1925078388,2162078206,2614888103,3248222580,3835390401,4022224774,264347078,604807628,770255983,1249150122,1555081692,1996064986,2554220882,2821834349,2952996808,3210313671,3336571891,3584528711,113926993,338241895,666307205,773529912,1294757372,1396182291,1695183700,1986661051,2177026350,2456956037,2730485921,2820302411,3259730800,3345764771,3516065817,3600352804,4094571909,275423344,430227734,506948616,659060556,883997877,958139571,1322822218,1537002063,1747873779,1955562222,2024104815,2227730452,2361852424,2428436474,2756734187,3204031479,3329325298]
def iv:List Int:=[1779033703,3144134277,1013904242,2773480762,1359893119,2600822924,528734635,1541459225]
def rotl(x k:Int):Int:=bK .or .u32 (IntKind.u32.wrap (x*2^(min (Int.toNat (bK .and .u64 (IntKind.u64.wrap k) 31)) 32))) (Int.fdiv x (2^(min (Int.toNat (IntKind.u64.wrap (32-(bK .and .u64 (IntKind.u64.wrap k) 31)))) 32)))
def rotr(x:Int)(n:Nat):Int:=bK .or .u32 (Int.fdiv x (2^n)) (IntKind.u32.wrap (x*2^(32-n)))
def mix(x i j k:Int):Int:=bK .xor .u32 (bK .xor .u32 (rotl x (IntKind.i64.wrap (0-i))) (rotl x (IntKind.i64.wrap (0-j)))) (rotl x (IntKind.i64.wrap (0-k)))
def S3(x:Int)(i j k:Nat):Int:=bK .xor .u32 (bK .xor .u32 (rotr x i) (rotr x j)) (rotr x k)
def sig(x:Int)(i j k:Nat):Int:=bK .xor .u32 (bK .xor .u32 (rotr x i) (rotr x j)) (Int.fdiv x (2^k))
def add(x y:Int):Int:=IntKind.u32.wrap (x+y)
def word(a b c d:Int):Int:=a*16777216+b*65536+c*256+d
def sched(b:Li):Nat→List Int
 | 0=>[]
 | t+1=>sched b t++[if t < 16 then word (b.getD (4*t) 0) (b.getD (4*t+1) 0) (b.getD (4*t+2) 0) (b.getD (4*t+3) 0)
   else add (add (add ((sched b t).getD (t-16) 0) (sig ((sched b t).getD (t-15) 0) 7 18 3)) ((sched b t).getD (t-7) 0)) (sig ((sched b t).getD (t-2) 0) 17 19 10)]
def ch(e f g:Int):Int:=bK .xor .u32 (bK .and .u32 e f) (bK .and .u32 (bK .xor .u32 4294967295 e) g)
def maj(a b c:Int):Int:=bK .xor .u32 (bK .xor .u32 (bK .and .u32 a b) (bK .and .u32 a c)) (bK .and .u32 b c)
def rnd(k w:Int)(s:Li×Li):Li×Li:=
 ([add (add (add (add (add (s.2.getD 3 0) (S3 (s.2.getD 0 0) 6 11 25)) (ch (s.2.getD 0 0) (s.2.getD 1 0) (s.2.getD 2 0))) k) w) (add (S3 (s.1.getD 0 0) 2 13 22) (maj (s.1.getD 0 0) (s.1.getD 1 0) (s.1.getD 2 0))),s.1.getD 0 0,s.1.getD 1 0,s.1.getD 2 0],
  [add (s.1.getD 3 0) (add (add (add (add (s.2.getD 3 0) (S3 (s.2.getD 0 0) 6 11 25)) (ch (s.2.getD 0 0) (s.2.getD 1 0) (s.2.getD 2 0))) k) w),s.2.getD 0 0,s.2.getD 1 0,s.2.getD 2 0])
def rnds(w:Li)(s:Li×Li):Nat→Li×Li
 | 0=>s
 | t+1=>rnd (K.getD t 0) (w.getD t 0) (rnds w s t)
def baC(s:Li)(t:Li×Li):List Int:=
 [add (s.getD 0 0) (t.1.getD 0 0),add (s.getD 1 0) (t.1.getD 1 0),add (s.getD 2 0) (t.1.getD 2 0),add (s.getD 3 0) (t.1.getD 3 0),
  add (s.getD 4 0) (t.2.getD 0 0),add (s.getD 5 0) (t.2.getD 1 0),add (s.getD 6 0) (t.2.getD 2 0),add (s.getD 7 0) (t.2.getD 3 0)]
def comp(s b:Li):List Int:=baC s (rnds (sched b 64) (s.take 4,s.drop 4) 64)
theorem apR(k:IntKind)(x y:Int):bK .or k x y=bK .or k y x:=by
 simp only [bK,BitVec.or_comm]
theorem ibits_xor_comm(k:IntKind)(x y:Int):bK .xor k x y=bK .xor k y x:=by
 simp only [bK,BitVec.xor_comm]
theorem rotl_neg(x:Int):∀ n:Nat,n < 32→0 < n→rotl x (-(n:Int))=rotr x n:=by
 intro n h1 h2
 have key:∀ n:Fin 32,0 < n.val→(min (Int.toNat (bK .and .u64 (IntKind.u64.wrap (-(n.val:Int))) 31)) 32)=32-n.val∧min (Int.toNat (IntKind.u64.wrap (32-(bK .and .u64 (IntKind.u64.wrap (-(n.val:Int))) 31)))) 32=n.val:=by decide
 have:=key ⟨n,h1⟩ h2
 unfold rotl rotr
 rw [this.1,this.2,apR]
end Go.Am.Sha
namespace Go.Am.Sha
open Go
abbrev Str:=Li×Li×Int
def begin:Str:=(iv,List.replicate 64 0,0)
def Qm(s:Str)(x:Int):Str:=
 (if s.2.2%64=63 then comp s.1 (s.2.1.set (s.2.2%64).toNat x) else s.1,s.2.1.set (s.2.2%64).toNat x,IntKind.u64.wrap (s.2.2+1))
def addS(s:Str)(text:Li):Str:=text.foldl Qm s
def be8(m:Int):List Int:=(List.range 8).map fun i=>IntKind.u8.wrap (m.fdiv (2^(56-8*i)))
def pad(n:Int):List Int:=128 :: (List.replicate ((55-n)%64).toNat 0++be8 (IntKind.u64.wrap (8*n)))
def out(st:Li):List Int:=(List.range 32).map fun i=>IntKind.u8.wrap ((st.getD (i / 4) 0).fdiv (2^(24-8*(i%4))))
def fin(s:Str):List Int:=out (addS s (pad s.2.2)).1
def hash(b:Li):List Int:=fin (addS begin b)
end Go.Am.Sha
namespace Go.Am.Sha
open Go
theorem aQW(s:Str)(x:Int):(Qm s x).2.1.length=s.2.1.length:=by simp [Qm]
theorem addS_append(s:Str)(a b:Li):addS s (a++b)=addS (addS s a) b:=by simp [addS,List.foldl_append]
theorem addS_nil(s:Str):addS s []=s:=rfl
theorem addS_chunk:∀ (t:Li) (st bl:Li) (n:Int),bl.length=64→0≤n→n≤18446744073709551615→(n%64).toNat+t.length≤64 →
  addS (st,bl,n) t=(if (n%64).toNat+t.length=64 then comp st (bl.take (n%64).toNat++t++bl.drop ((n%64).toNat+t.length)) else st,
   bl.take (n%64).toNat++t++bl.drop ((n%64).toNat+t.length),IntKind.u64.wrap (n+t.length))
 | [],st,bl,n,hb,h0,h1,hl=>by
  have:¬ ((n%64).toNat+0=64):=by omega
  simp only [addS,List.foldl_nil,List.length_nil,if_neg this,List.append_nil,Nat.add_zero,List.take_append_drop]
  rw [aBY (by simpa using h0) (by simpa using h1)]
  simp;omega
 | x :: t,st,bl,n,hb,h0,h1,hl=>by
  simp only [List.length_cons] at hl
  have hat:(n%64).toNat < 64:=by omega
  show addS (Qm (st,bl,n) x) t=_
  have hn':IntKind.u64.wrap (n+1)=(n+1)%18446744073709551616:=DU _
  have htk:(bl.set (n%64).toNat x).take ((n%64).toNat+1)=bl.take (n%64).toNat++[x]:=by
   rw [List.take_add_one,List.take_set_of_le (Nat.le_refl _)]
   simp [hb,hat]
  by_cases h63:n%64=63
  ·have ht:t=[]:=by
    have:t.length=0:=by omega
    exact List.length_eq_zero_iff.mp this
   subst ht
   have e1:(n%64).toNat=63:=by omega
   simp only [addS,List.foldl_nil,Qm,h63,if_true,List.length_cons,List.length_nil,Nat.zero_add]
   rw [show(63:Int).toNat=63 from rfl]
   have e2:bl.set 63 x=bl.take 63++[x]++bl.drop (63+1):=by
    rw [List.drop_of_length_le (by omega),List.append_nil]
    rw [e1] at htk
    rw [← htk,List.take_of_length_le (by simp [hb])]
   rw [e2]
   simp
  ·have e3:(Qm (st,bl,n) x)=(st,bl.set (n%64).toNat x,IntKind.u64.wrap (n+1)):=by simp only [Qm,if_neg h63]
   have e4:(IntKind.u64.wrap (n+1)%64).toNat=(n%64).toNat+1:=by rw [hn'];omega
   rw [e3,addS_chunk t st (bl.set (n%64).toNat x) (IntKind.u64.wrap (n+1)) (by simpa using hb) (by rw [hn'];omega) (by rw [hn'];omega) (by rw [e4];omega),e4,htk]
   have e5:(bl.set (n%64).toNat x).drop ((n%64).toNat+1+t.length)=bl.drop ((n%64).toNat+(x :: t).length):=by
    rw [List.drop_set_of_lt (by omega)]
    congr 1
    simp only [List.length_cons];omega
   have e6:IntKind.u64.wrap (IntKind.u64.wrap (n+1)+(t.length:Int))=IntKind.u64.wrap (n+((x :: t).length:Nat)):=by
    simp only [DU,List.length_cons];omega
   have e7:((n%64).toNat+1+t.length=64)=((n%64).toNat+(x :: t).length=64):=by
    simp only [List.length_cons];apply propext;omega
   rw [e5,e6]
   simp only [e7]
   simp only [List.append_assoc,List.singleton_append,List.cons_append,List.nil_append]
theorem addS_n:∀ (t:Li) (st bl:Li) (n:Int),0≤n→n≤18446744073709551615→(addS (st,bl,n) t).2.2=IntKind.u64.wrap (n+t.length)
 | [],st,bl,n,h0,h1=>by simp [addS];rw [aBY h0 h1]
 | x :: t,st,bl,n,h0,h1=>by
  show(addS (Qm (st,bl,n) x) t).2.2=_
  have e:Qm (st,bl,n) x=((Qm (st,bl,n) x).1,(Qm (st,bl,n) x).2.1,IntKind.u64.wrap (n+1)):=rfl
  rw [e,addS_n t _ _ _ (by rw [DU];omega) (by rw [DU];omega)]
  simp only [DU,List.length_cons];omega
theorem aQX(s b:Li):(comp s b).length=8:=rfl
theorem addS_lens:∀ (t:Li) (s:Str),s.1.length=8→(addS s t).1.length=8∧(addS s t).2.1.length=s.2.1.length
 | [],s,h=>⟨h,rfl⟩
 | x :: t,s,h=>by
  have:=addS_lens t (Qm s x) (by simp only [Qm];split;exact aQX _ _;exact h)
  exact⟨this.1,this.2.trans (aQW s x)⟩
end Go.Am.Sha
end
section
/- The encoding of numbers and strings; codes and digests. -/
namespace Go.Am.Wire
open Go
def mag(n:Int):Nat:=(if n < 0 then -1-n else n).toNat
def nbF:Nat→Nat→Nat
 | 0,_=>0
 | f+1,m=>if m=0 then 0 else nbF f (m / 256)+1
def nb(m:Nat):Nat:=nbF 8 m
def dig(n:Int)(i:Nat):Int:=if n < 0 then 255-((mag n / 256^i%256:Nat):Int) else ((mag n / 256^i%256:Nat):Int)
def head(n:Int):Int:=if n < 0 then 127-(nb (mag n):Int) else 128+(nb (mag n):Int)
def int(n:Int):List Int:=head n :: (List.range (nb (mag n))).map fun j=>dig n (nb (mag n)-1-j)
def bytes(t:List Int):List Int:=int (t.length:Int)++t
end Go.Am.Wire
namespace Go.Am
open Go
end Go.Am
namespace Go.Am.Sha
open Go
def a9L(tag:Int)(l:List (List Int)):List Int:=IntKind.u8.wrap tag :: l.flatMap Wire.bytes
def of(tag:Int)(l:List (List Int)):List Int:=(hash (a9L tag l)).take 16
def few(l:List (List Int)):Bool:=decide (l.length < 1073741824)&&l.all fun s=>decide (s.length < 1073741800)
def hexd:List Int:=[48,49,50,51,52,53,54,55,56,57,97,98,99,100,101,102]
def hex(s:List Int):List Int:=s.flatMap fun x=>[hexd.getD (x / 16).toNat 0,hexd.getD (x%16).toNat 0]
theorem a7e(s:List Int):(out s).length=32:=by simp [out]
theorem hash_len(b:List Int):(hash b).length=32:=a7e _
def padded(b:List Int):List Int:=b++pad (b.length:Int)
end Go.Am.Sha
namespace Go.Am.Wire
open Go
end Go.Am.Wire
namespace Go.Am.Sha
open Go
end Go.Am.Sha
end
section
/- Lists, and what the decoders return. -/
namespace Go.Am.Wire
open Go
def total(l:List (List Int)):Nat:=l.length+l.flatten.length
def few(l:List (List Int)):Bool:=decide (total l≤2000)
def flp(h d:Int):Int:=if h < 128 then 255-d else d
def Ke(h:Int):Nat:=(if h < 128 then 127-h else h-128).toNat
def val(h:Int)(l:List Int):Int:=l.foldl (fun a c=>a*256+flp h c) 0
def qZ:List Int→Int×Int×Int
 | []=>(0,0,3)
 | h :: t=>
  if 8 < Ke h then (0,0,2)
  else if t.length < Ke h then (0,0,3)
  else if 0 < Ke h∧flp h (t.getD 0 0)=0 then (0,0,2)
  else if 9223372036854775808≤val h (t.take (Ke h)) then (0,0,2)
  else ((if h < 128 then -1-val h (t.take (Ke h)) else val h (t.take (Ke h))),(Ke h:Int)+1,0)
def count(b:List Int)(z:Int):Int×Int×Int:=
 ((qZ b).1,(qZ b).2.1,if (qZ b).2.2≠0 then (qZ b).2.2 else if (qZ b).1 < 0 then 2 else if ((b.length:Int)-(qZ b).2.1) / z < (qZ b).1 then 3 else 0)
def is(c:List Int)(u e:Int)(b:List Int):Bool:=decide (e≠0) || ((decide (0≤u)&&decide (u≤(b.length:Int)))&&decide (c=b.take u.toNat))
def ahL(b:List Int):Prop:=∀ x∈b,0≤x∧x≤255
theorem a7f{h d:Int}(hd:0≤d∧d≤255):0≤flp h d∧flp h d≤255:=by unfold flp;split <;> omega
theorem apE(h:Int):∀ (l:List Int) (a:Int),0≤a→ahL l→0≤l.foldl (fun a c=>a*256+flp h c) a∧l.foldl (fun a c=>a*256+flp h c) a < (a+1)*256^l.length
 | [],a,ha,_=>by simp;omega
 | x :: l,a,ha,hl=>by
  have hx:=a7f (h:=h) (hl x (by simp))
  have:=apE h l (a*256+flp h x) (by omega) (fun y hy=>hl y (by simp [hy]))
  refine⟨this.1,Int.lt_of_lt_of_le this.2 ?_⟩
  rw [List.length_cons,Int.pow_succ,Int.mul_comm (256^l.length) 256,← Int.mul_assoc]
  exact Int.mul_le_mul_of_nonneg_right (by omega) (Int.le_of_lt (Int.pow_pos (by decide)))
theorem a7g(h:Int){l:List Int}(hl:ahL l):0≤val h l∧val h l < 256^l.length:=by
 have:=apE h l 0 (by omega) hl
 simpa [val] using this
theorem aBZ{b:List Int}(hb:ahL b):(qZ b).2.1≤(b.length:Int)∧0≤(qZ b).2.1∧IntKind.i64.has (qZ b).1∧(0≤(qZ b).2.2∧(qZ b).2.2≤3)∧((qZ b).2.2=0→1≤(qZ b).2.1)∧(qZ b).2.1≤9:=by
 have z:IntKind.i64.has 0:=by constructor <;> decide
 cases b with
 | nil=>simp [qZ,z]
 | cons h t=>
  have hv:=a7g h (l:=t.take (Ke h)) (fun x hx=>hb x (by simp [List.mem_of_mem_take hx]))
  simp only [qZ]
  by_cases c1:8 < Ke h
  ·rw [if_pos c1];simp [z];omega
  rw [if_neg c1]
  by_cases c2:t.length < Ke h
  ·rw [if_pos c2];simp [z];omega
  rw [if_neg c2]
  by_cases c3:0 < Ke h∧flp h (t.getD 0 0)=0
  ·rw [if_pos c3];simp [z];omega
  rw [if_neg c3]
  by_cases c4:9223372036854775808≤val h (t.take (Ke h))
  ·rw [if_pos c4];simp [z];omega
  rw [if_neg c4]
  refine⟨by simp only [List.length_cons];omega,by simp only [];omega,?_,by simp,fun _=>by simp only [];omega,by simp only [];omega⟩
  simp only []
  constructor
  ·show -9223372036854775808≤_;split <;> omega
  ·show _≤(9223372036854775807:Int);split <;> omega
end Go.Am.Wire
namespace Go.Am
open Go
theorem ai3(l:List Int)(i:Nat)(h:i < l.length):l.take (i+1)=l.take i++[l.getD i 0]:=by
 rw [List.take_add_one,List.getElem?_eq_getElem h,List.getD_eq_getElem?_getD,List.getElem?_eq_getElem h];rfl
end Go.Am
end
section
/- Numbers: what is decoded is what was encoded; an encoding is the only one. -/
namespace Go.Am.Wire
open Go
def D(k m:Nat):List Nat:=(List.range k).map fun j=>m / 256^(k-1-j)%256
theorem count_ok{b:List Int}{z:Int}(hb:ahL b)(hz:0 < z)(h:(count b z).2.2=0):
  (qZ b).2.2=0∧(count b z).1=(qZ b).1∧(count b z).2.1=(qZ b).2.1∧0≤(qZ b).1∧1≤(qZ b).2.1∧(qZ b).2.1≤(b.length:Int)∧(qZ b).1*z≤(b.length:Int)-(qZ b).2.1:=by
 have hr:=aBZ hb
 simp only [count] at h ⊢
 by_cases c1:(qZ b).2.2=0
 ·rw [if_neg (by omega)] at h
  by_cases c2:(qZ b).1 < 0
  ·rw [if_pos c2] at h;omega
  rw [if_neg c2] at h
  by_cases c3:((b.length:Int)-(qZ b).2.1) / z < (qZ b).1
  ·rw [if_pos c3] at h;omega
  ·refine⟨c1,trivial,trivial,by omega,hr.2.2.2.2.1 c1,hr.1,?_⟩
   have:=mt (Int.ediv_lt_iff_lt_mul hz).mpr c3
   omega
 ·rw [if_pos c1] at h;exact absurd h c1
end Go.Am.Wire
namespace Go.Am
open Go
end Go.Am
namespace Go.Am.Wire
open Go
end Go.Am.Wire
end