/- Part of a proof. -/
import Derived.Test.YtgdibbphgdkllaaAmTy
import Derived.KernelRfl
import Derived.Test.YtgdibbphgdkllaaAmCore
import Derived.Test.YtgdibbphgdkllaaAmOpen
set_option linter.unusedSimpArgs false
set_option linter.unusedVariables false
section
/- The table of types, checked by one closed look. -/
namespace Go.Am
open Go
mutual
def wfB:AV→Bool
 | .rI _ _=>true
 | .rB _=>true
 | .rS _=>true
 | .rL _ _=>true
 | .rT _ _=>true
 | .one v=>v.scal
 | .segs s=>wfSB s
 | _=>false
def wfSB:AVs→Bool
 | .nil=>true
 | .cons n v t=>wfB v&&(Nat.beq v.size n&&wfSB t)
end
mutual
theorem wfB_ok:∀ (r:AV),wfB r=true→r.wf
 | .rI _ _,_=>trivial
 | .rB _,_=>trivial
 | .rS _,_=>trivial
 | .rL _ _,_=>trivial
 | .one v,h=>h
 | .segs s,h=>wfSB_ok s h
 | .undef,h=>by simp [wfB] at h
 | .bool _,h=>by simp [wfB] at h
 | .int _ _,h=>by simp [wfB] at h
 | .str _,h=>by simp [wfB] at h
 | .rT _ _,_=>trivial
 | .agg _ _,h=>by simp [wfB] at h
 | .tup _,h=>by simp [wfB] at h
 | .nilp,h=>by simp [wfB] at h
 | .ptr _ _ _ _ _ _ _,h=>by simp [wfB] at h
 | .gp _ _ _ _ _ _,h=>by simp [wfB] at h
 | .ns,h=>by simp [wfB] at h
 | .own _ _ _,h=>by simp [wfB] at h
 | .sl _ _ _ _ _ _,h=>by simp [wfB] at h
 | .vs _ _ _,h=>by simp [wfB] at h
 | .mp _,h=>by simp [wfB] at h
 | .nilm,h=>by simp [wfB] at h
 | .fn _ _,h=>by simp [wfB] at h
 | .nilf,h=>by simp [wfB] at h
theorem wfSB_ok:∀ (s:AVs),wfSB s=true→s.wfS
 | .nil,_=>trivial
 | .cons n v t,h=>by
  simp only [wfSB,Bool.and_eq_true] at h
  exact⟨wfB_ok v h.1,Nat.eq_of_beq_eq_true h.2.1,wfSB_ok t h.2.2⟩
end
def descB(P:Program)(T:Tys)(t:Nat):Bool:=match (T.at t).d,P.underlying t with
 | .int k,some (.int k')=>decide (k=k')&&Nat.beq (T.at t).sz 1
 | .bool,some .bool=>Nat.beq (T.at t).sz 1
 | .str,some .string=>true
 | .ptr e,some (.pointer e')=>Nat.beq e e'
 | .slice e,some (.slice e')=>Nat.beq e e'
 | .arr n e,some (.array n' e')=>Nat.beq n n'&&Nat.beq e e'
 | .struct fs, some (.struct a) => decide (a.toList.map (fun f => (f.type, f.offset)) = fs) && (!(P.stoodInHeld t) && a.toList.all fun f => f.name != "_")
 | .map k e,some (.map k' e')=>Nat.beq k k'&&Nat.beq e e'
 | .func,d=>match d with
  | some (.struct _)=>false
  | some (.array _ _)=>false
  | some _=>true
  | none=>false
 | .other,d=>!(Nat.beq (T.at t).sz 1) || match d with
  | some (.struct _)=>false
  | some (.array _ _)=>false
  | some _=>true
  | none=>false
 | _,_=>false
def zeroB(P:Program)(T:Tys)(t:Nat):Bool:=match zvar T 16 t with
 | none=>true
 | some r=>Nat.blt 0 (T.at t).sz&&(wfB r&&(Nat.beq r.size (T.at t).sz&&match P.info? t with
  | none=>false
  | some i=>match i.zero with
   | none=>false
   | some z=>(Nat.beq z.cells.size (T.at t).sz&&aggB z (T.at t).d.isAgg)&&(List.range (T.at t).sz).all fun j=>match concZ (r.cell j) with
    | some v=>veq v (z.cells.getD j Go.undef)
    | none=>false))
def kindB(P:Program)(T:Tys)(t:Nat):Bool:=match zkind T 8 t with
 | none=>true
 | some (k,c)=>Nat.blt 0 c&&(Nat.beq c (T.at t).sz&&match P.info? t with
  | none=>false
  | some i=>match i.zero with
   | none=>false
   | some z=>Nat.beq z.cells.size c&&(List.range c).all fun j=>veq (z.cells.getD j Go.undef) (k.zero j))
def tyB(P:Program)(T:Tys)(t:Nat):Bool:=(Nat.beq (T.at t).sz 0 || match P.info? t with
 | some i=>Nat.beq i.size (T.at t).sz&&Nat.ble i.bytes 65536
 | none=>false)&&(descB P T t&&(zeroB P T t&&kindB P T t))
def tysB(P:Program)(T:Tys):Bool:=Nat.beq P.types.size T.length&&(List.range T.length).all (tyB P T)
theorem tyB_ok{P:Program}{T:Tys}{t:Nat}(h:tyB P T t=true):TyOk P T t:=by
 simp only [tyB,Bool.and_eq_true] at h
 obtain⟨h1,h2,h3,h4⟩:=h
 have hd:∀ {d},(T.at t).d=d→descB P T t=true:=fun _=>h2
 unfold descB at h2
 refine {
  size:=fun h0=>?_,int:=fun k hk=>?_,bool:=fun hk=>?_,int1:=fun k hk=>?_,bool1:=fun hk=>?_,str:=fun hk=>?_,ptr:=fun e hk=>?_,slice:=fun e hk=>?_,arr:=fun n e hk=>?_,struct:=fun fs hk=>?_,names:=fun fs hk a ha=>?_,map:=fun k e hk=>?_,
  one:=fun ha hs=>?_,bytes:=fun hz0 i hi=>?_,zero:=fun r hr=>?_,zagg:=fun r hr=>?_,kind:=fun k c hk=>?_ }
 ·rcases Bool.or_eq_true _ _▸h1 with h1 | h1
  ·have:=Nat.eq_of_beq_eq_true h1;omega
  ·split at h1
   ·rename_i i hi
    simp only [Bool.and_eq_true] at h1
    exact⟨i,hi,Nat.eq_of_beq_eq_true h1.1⟩
   ·contradiction
 ·rw [hk] at h2;split at h2 <;> simp_all
 ·rw [hk] at h2;split at h2 <;> simp_all
 ·rw [hk] at h2;split at h2 <;> simp_all
 ·rw [hk] at h2;split at h2 <;> simp_all
 ·rw [hk] at h2;split at h2 <;> simp_all
 ·rw [hk] at h2;split at h2 <;> simp_all
 ·rw [hk] at h2;split at h2 <;> simp_all
 ·rw [hk] at h2;split at h2 <;> simp_all
 ·rw [hk] at h2
  split at h2 <;> simp_all
 ·rw [hk,ha] at h2
  simp only [Bool.and_eq_true,List.all_eq_true,bne_iff_ne] at h2
  exact h2.2.2
 ·rw [hk] at h2;split at h2 <;> simp_all
 ·cases hdd:(T.at t).d with
  | int k=>rw [hdd] at h2;split at h2 <;> simp_all
  | bool=>rw [hdd] at h2;split at h2 <;> simp_all
  | str=>rw [hdd] at h2;split at h2 <;> simp_all
  | ptr e=>rw [hdd] at h2;split at h2 <;> simp_all
  | slice e=>rw [hdd] at h2;split at h2 <;> simp_all
  | arr n e=>rw [hdd] at ha;simp [TyD.isAgg] at ha
  | struct fs=>rw [hdd] at ha;simp [TyD.isAgg] at ha
  | map k e=>rw [hdd] at h2;split at h2 <;> simp_all
  | func=>
   rw [hdd] at h2
   simp only at h2
   split at h2 <;> try contradiction
   rename_i d hn1 hn2 e
   exact⟨d,e,fun fs h=>hn1 fs h,fun n e' h=>hn2 n e' h⟩
  | other=>
   rw [hdd] at h2
   simp only [hs,show Nat.beq 1 1=true from rfl,Bool.not_true,Bool.false_or] at h2
   split at h2 <;> try contradiction
   rename_i d hn1 hn2 e
   exact⟨d,e,fun fs h=>hn1 fs h,fun n e' h=>hn2 n e' h⟩
 ·rw [hi] at h1
  rcases Bool.or_eq_true _ _▸h1 with h1 | h1
  ·have:=Nat.eq_of_beq_eq_true h1;omega
  ·simp only [Bool.and_eq_true] at h1
   exact Nat.le_of_ble_eq_true h1.2
 ·unfold zeroB at h3
  rw [hr] at h3
  simp only [Bool.and_eq_true,Nat.blt_eq] at h3
  obtain⟨g1,g2,g3,g4⟩:=h3
  refine⟨g1,wfB_ok r g2,Nat.eq_of_beq_eq_true g3,?_⟩
  split at g4 <;> try contradiction
  rename_i i hi
  split at g4 <;> try contradiction
  rename_i z hz
  simp only [Bool.and_eq_true,List.all_eq_true,List.mem_range] at g4
  refine⟨i,z,hi,hz,Nat.eq_of_beq_eq_true g4.1.1,fun j hj=>?_⟩
  have:=g4.2 j hj
  split at this
  ·rename_i v hv;rw [hv,veq_eq this]
  ·contradiction
 ·unfold zeroB at h3
  rw [hr] at h3
  simp only [Bool.and_eq_true,Nat.blt_eq] at h3
  obtain⟨g1,g2,g3,g4⟩:=h3
  split at g4 <;> try contradiction
  rename_i i hi
  split at g4 <;> try contradiction
  rename_i z hz
  simp only [Bool.and_eq_true,List.all_eq_true,List.mem_range] at g4
  exact⟨i,z,hi,hz,g4.1.2⟩
 ·unfold kindB at h4
  rw [hk] at h4
  simp only [Bool.and_eq_true,Nat.blt_eq] at h4
  obtain⟨g1,g2,g4⟩:=h4
  refine⟨g1,Nat.eq_of_beq_eq_true g2,?_⟩
  split at g4 <;> try contradiction
  rename_i i hi
  split at g4 <;> try contradiction
  rename_i z hz
  simp only [Bool.and_eq_true,List.all_eq_true,List.mem_range] at g4
  exact⟨i,z,hi,hz,Nat.eq_of_beq_eq_true g4.1,fun j hj=>veq_eq (g4.2 j hj)⟩
theorem tysB_ok{P:Program}{T:Tys}(h:tysB P T=true):TysOk P T:=by
 simp only [tysB,Bool.and_eq_true,List.all_eq_true,List.mem_range] at h
 intro t
 by_cases ht:t < T.length
 ·exact tyB_ok (h.2 t ht)
 ·have e:T.at t=⟨.other,0,0⟩:=by simp [Tys.at,List.getD_eq_getElem?_getD,List.getElem?_eq_none (Nat.le_of_not_lt ht)]
  refine {
   size:=fun h0=>?_,int:=fun k hk=>?_,bool:=fun hk=>?_,int1:=fun k hk=>?_,bool1:=fun hk=>?_,str:=fun hk=>?_,ptr:=fun e hk=>?_,slice:=fun e hk=>?_,arr:=fun n e hk=>?_,struct:=fun fs hk=>?_,names:=fun fs hk a ha=>?_,map:=fun k e hk=>?_,
   one:=fun ha hs=>?_,bytes:=fun hz0 i hi'=>?_,zero:=fun r hr=>?_,zagg:=fun r hr=>?_,kind:=fun k c hk=>?_ }
  all_goals first | (exfalso;simp_all [zvar,zkind];done) | skip
end Go.Am
end
section
/- How the executor is cut into pieces: one lemma for each kind of node. -/
namespace Go.Am
open Go
variable {α σ τ : Type} {V : Env} {A : Cuts}
theorem seq_cut{c a b:Code}(hc:c=.seq a b){spec:List (Nat×Md)}(hj:(ckey b).bind A.join=some spec)(eE:σ→St)(eB:τ→St)
  (K:Ex→St→Option α) (Na:(τ→Option α)→σ→Option α) (Nb:τ→Option α)
  (ha:∀ (R:St→Option α) v,aexec V A a (eE v) (kSeq (fun s=>R (cutTo V (some spec) s)) K)=Na (fun w=>R (eB w)) v)
  (hb:∀ w,aexec V A b (eB w) K=Nb w):∀ v,aexec V A c (eE v) K=Na Nb v:=by
 intro v
 subst hc
 rw [aexec,hj,ha (fun s=>aexec V A b s K) v]
 exact congrArg (fun g=>Na g v) (funext hb)
theorem block_in{c d:Code}{id:Nat}(hc:c=.block id d)(s:St)(K:Ex→St→Option α):aexec V A c s K=aexec V A d s (kBlock id K):=by
 subst hc;rfl
theorem scope_in{c d:Code}(hc:c=.scope d)(s:St)(K:Ex→St→Option α):aexec V A c s K=aexec V A d s K:=by
 subst hc;rfl
theorem loop_deep{d:Code}{spec:List (Nat×Md)}(hj:(ckey d).bind A.at_=some spec)(eL:τ→St)
  (K:Ex→St→Option α) (S:(τ→Option α)→τ→Option α)
  (hs:∀ (R:St→Option α) w,aexec V A d (eL w) (kSeq (fun s=>R (cutTo V (some spec) s)) K)=S (fun w=>R (eL w)) w) (n:Nat) (w:τ) :
  loopN (fun R s=>aexec V A d s (kSeq (fun s=>R (cutTo V ((ckey d).bind A.at_) s)) K)) n (eL w)=loopN S n w:=by
 rw [hj]
 induction n generalizing w with
 | zero=>rfl
 | succ n ih=>
  rw [loopN,loopN,hs]
  exact congrArg (fun g=>S g w) (funext ih)
theorem loop_cut{c d:Code}(hc:c=.loop d){spec:List (Nat×Md)}(hj:(ckey d).bind A.at_=some spec)(eE:σ→St)(eL:τ→St)
  (K:Ex→St→Option α) (i:σ→τ) (S:(τ→Option α)→τ→Option α)
  (hi:∀ v,cutTo V (some spec) (eE v)=eL (i v))
  (hs:∀ (R:St→Option α) w,aexec V A d (eL w) (kSeq (fun s=>R (cutTo V (some spec) s)) K)=S (fun w=>R (eL w)) w)
  (hp:(ckey d).map A.peel=some false:=by kernel_rfl) :
  ∀ v,aexec V A c (eE v) K=loopN S A.F (i v):=by
 intro v
 subst hc
 rw [aexec,hp]
 have h:=loop_deep hj eL K S hs A.F (i v)
 rw [← hi,← hj] at h
 exact h
theorem cond_in{c x y:Code}{o:Operand}(hc:c=.cond o x y)(eE:σ→St)(K:Ex→St→Option α)(b:σ→Bool)
  (ho:∀ v,ev V (eE v) o=.bool (b v)) (X Y:σ→Option α) (hx:∀ v,aexec V A x (eE v) K=X v) (hy:∀ v,aexec V A y (eE v) K=Y v) :
  ∀ v,aexec V A c (eE v) K=cond (b v) (X v) (Y v):=by
 intro v
 subst hc
 rw [aexec,ho,hx,hy]
theorem abody_in{f:Func}{args:List AV}{H:List Blk}{c:Code}(hc:f.body=some c){s:St}
  (hs:{ tmps:=tagT 0 args,heap:=tagH 0 H,next:=H.length,nt:=max args.length f.ntmps,m:=H.length }=s) :
  abody V A f args H=aexec V A c s (kFin V A.fin f.results.toList):=by
 subst hs
 rw [abody,hc]
end Go.Am
end
section
/- What the texts that are printed for a seat lean on. -/
namespace Go.Am
open Go
def pth:Nat→Nat→List Nat→List Nat
 | 0,_,l=>l
 | k+1,n,l=>match Nat.ble n 1 with
  | true=>l
  | false=>pth k (n / 2) (n%2 :: l)
abbrev bp(f:Func)(n:Nat):Code:=sub (bodyOf f) (pth 64 n [])
abbrev Rz:=Option (AV×List Blk)
abbrev kc(V:Env)(R:St→Rz)(spec:List (Nat×Md)):St→Rz:=fun s=>R (cutTo V (some spec) s)
abbrev CRun:=List AV→List Blk→Option (Bool×AV×List Blk)
abbrev CEnt:=Nat×List (Option Nat)×CRun
def lookE:List CEnt→Nat→Option (List (Option Nat)×CRun)
 | [],_=>none
 | (g,m,r) :: l,f=>match Nat.beq f g with
  | true=>some (m,r)
  | false=>lookE l f
def mkEnv(T:Tys)(G:Nat→Option AV)(l:List CEnt):Env:={ T:=T,G:=G,E:=lookE l }
def okAll(P:Program)(G:Nat→Option AV):List CEnt→Prop
 | []=>True
 | (f,_,r) :: l=>CallOk P G f r∧okAll P G l
theorem eok_mk{P:Program}{T:Tys}{G:Nat→Option AV}:∀ {l:List CEnt},okAll P G l→EOk P (mkEnv T G l)
 | [],_=>fun f m r h=>by simp [mkEnv,lookE] at h
 | (g,m,r) :: l,hl=>fun f m' r' h=>by
  simp only [mkEnv,lookE] at h
  split at h
  ·rename_i hb
   injection h with h;injection h with h1 h2
   subst h1;subst h2
   have:=Nat.eq_of_beq_eq_true hb
   subst this
   exact hl.1
  ·exact eok_mk (T:=T) hl.2 f m' r' h
theorem CallOk.sub{P:Program}{G:Nat→Option AV}{f:Nat}{run run':CRun}(h:CallOk P G f run)(g:∀ A H r H',run' A H=some (true,r,H')→run A H=some (true,r,H')):CallOk P G f run' where
 there:=h.there
 does:=fun A H r H' e=>h.does A H r H' (g A H r H' e)
theorem CallOk.or{P:Program}{G:Nat→Option AV}{f:Nat}{run run2 run':CRun}(h:CallOk P G f run)(h2:CallOk P G f run2)(g:∀ A H r H',run' A H=some (true,r,H')→run A H=some (true,r,H')∨run2 A H=some (true,r,H')):CallOk P G f run' where
 there:=h.there
 does:=fun A H r H' e=>(g A H r H' e).elim (h.does A H r H') (h2.does A H r H')
theorem CallOk.more{P:Program}{G G':Nat→Option AV}{f:Nat}{run:CRun}(h:CallOk P G f run)(hG:∀ g r,G g=some r→G' g=some r):CallOk P G' f run where
 there:=h.there
 does:=by
  intro A H r H' hr U w ρ args hini hs hargs
  have hs0:Sim U G w (WrO ρ (tagH 0 H)) ρ (hst H) emptyAct w:={
   tm:=hs.tm,nt:=hs.nt,df:=hs.df,bl:=hs.bl,sep:=hs.sep,dom:=hs.dom,fr:=hs.fr,wo:=hs.wo,sz:=hs.sz,gl:=fun g r hg=>hs.gl g r (hG g r hg),uo:=hs.uo,ug:=fun g r hg=>hs.ug g r (hG g r hg),su:=hs.su,ini:=hs.ini,im:=hs.im,sm:=hs.sm,xk:=hs.xk }
  refine(h.does A H r H' hr U w ρ args hini hs0 hargs).mono ?_
  rintro e w' ⟨v,ρ',he,h1,h2⟩
  exact⟨v,ρ',he,{
   tm:=h1.tm,nt:=h1.nt,df:=h1.df,bl:=h1.bl,sep:=h1.sep,dom:=h1.dom,fr:=h1.fr,wo:=h1.wo,sz:=h1.sz,gl:=hs.gl,uo:=h1.uo,ug:=hs.ug,su:=h1.su,ini:=h1.ini,im:=h1.im,sm:=h1.sm,xk:=h1.xk },h2⟩
theorem loopN_ind{σ α:Type}{step:(σ→Option α)→σ→Option α}{r:Option α}(I:Nat→σ→Prop)
  (h:∀ m s k,I m s→(∀ m' s',m' < m→I m' s'→k s'=r)→step k s=r):∀ (F m:Nat) (s:σ),m < F→I m s→loopN step F s=r
 | 0,_,_,hm,_=>by omega
 | F+1,m,s,hm,hi=>h m s _ hi fun m' s' hm' hi'=>loopN_ind I h F m' s' (by omega) hi'
theorem loopN_orbit{σ α:Type}{step:(σ→Option α)→σ→Option α}{r:Option α}(s:Nat→σ)(n:Nat)(h1:∀ i,i < n → ∀ k,step k (s i)=k (s (i+1)))(h2:∀ k,step k (s n)=r)(F:Nat)(hF:n < F):
  loopN step F (s 0)=r:=
 loopN_ind (fun m t=>m≤n∧t=s (n-m)) (fun m t k hi hk=>by
  obtain⟨hm,rfl⟩:=hi
  cases m with
  | zero=>exact h2 k
  | succ m=>
   rw [h1 (n-(m+1)) (by omega) k]
   exact hk m _ (by omega) ⟨by omega,by rw [show n-(m+1)+1=n-m by omega]⟩) F n (s 0) hF ⟨Nat.le_refl _,by rw [Nat.sub_self]⟩
theorem loopN_from{σ α:Type}{step:(σ→Option α)→σ→Option α}{r:Option α}{s0:σ}(s:Nat→σ)(n:Nat)(h0:s0=s 0)(h1:∀ i,i < n → ∀ k,step k (s i)=k (s (i+1)))(h2:∀ k,step k (s n)=r)(F:Nat)(hF:n < F):
  loopN step F s0=r:=h0▸loopN_orbit s n h1 h2 F hF
theorem i64w{x:Int}(h1 : -9223372036854775808≤x)(h2:x≤9223372036854775807):IntKind.i64.wrap x=x:=by
 unfold IntKind.wrap;simp only [IntKind.signed,IntKind.bits];simp;omega
theorem cond_pos{α:Type}{p:Prop}[Decidable p]{a b:α}(h:p):cond (decide p) a b=a:=by simp [h]
theorem cond_neg{α:Type}{p:Prop}[Decidable p]{a b:α}(h:¬ p):cond (decide p) a b=b:=by simp [h]
theorem dec_and{p q:Prop}[Decidable p][Decidable q]:(decide p&&decide q)=decide (p∧q):=by simp
theorem dec_not{p:Prop}[Decidable p]:(!(decide p))=decide (¬ p):=by simp
theorem int_beq(x y:Int):(x==y)=decide (x=y):=by rw [Bool.eq_iff_iff];simp
theorem int_bne(x y:Int):(x != y)=decide (x≠y):=by rw [Bool.eq_iff_iff];simp
theorem tmod_nn{x y:Int}(h:0≤x):Int.tmod x y=x%y:=Int.tmod_eq_emod_of_nonneg h
theorem tdiv_nn{x y:Int}(h:0≤x):Int.tdiv x y=x / y:=Int.tdiv_eq_ediv_of_nonneg h
theorem list_eq{α:Type}(d:α){a b:List α}(hl:a.length=b.length)(h:∀ i,i < a.length→a.getD i d=b.getD i d):a=b:=by
 refine List.ext_getElem hl fun i h1 h2=>?_
 have:=h i h1
 rwa [List.getD_eq_getElem?_getD,List.getD_eq_getElem?_getD,List.getElem?_eq_getElem h1,List.getElem?_eq_getElem h2] at this
theorem lst_beq(x y:List Int):(x==y)=decide (x=y):=by rw [Bool.eq_iff_iff];simp
theorem okB_size{n:Nat}{r:AV}{c:Bool}(h:okB (.cells n r c))(hl:r.leafB=true):n=r.size:=by
 cases r <;> first | (simp [AV.leafB] at hl;done) | exact h.2.1.symm
end Go.Am
end
section
/- Plain laws for the regions: what the functions of gantryref38, region and the library's slices compute. -/
namespace Go.Am
open Go
def scan{α:Type}(q:Nat→Option (Option α)):Nat→Nat→Option α→Option α
 | 0,_,e=>e
 | m+1,i,e=>match q i with
  | some r=>r
  | none=>scan q m (i+1) e
theorem loopN_scan{σ α:Type}{S:(σ→Option α)→σ→Option α}{s0:σ}(st:Nat→σ)(n:Nat)(q:Nat→Option (Option α))(e:Option α)(h0:s0=st 0)
  (h1:∀ i,i < n → ∀ k,S k (st i)=match q i with | some r=>r | none=>k (st (i+1))) (h2:∀ k,S k (st n)=e) (F:Nat) (hF:n < F):loopN S F s0=scan q n 0 e:=by
 subst h0
 have:∀ (m i F:Nat),i+m=n→m < F→loopN S F (st i)=scan q m i e:=by
  intro m
  induction m with
  | zero=>
   intro i F hi hF
   cases F with
   | zero=>omega
   | succ F=>rw [loopN,scan];rw [show i=n by omega];exact h2 _
  | succ m ih=>
   intro i F hi hF
   cases F with
   | zero=>omega
   | succ F=>
    rw [loopN,scan,h1 i (by omega)]
    cases q i with
    | some r=>rfl
    | none=>exact ih (i+1) F (by omega) (by omega)
 exact this n 0 F (by omega) hF
theorem scan_idx{α β:Type}(p:β→Bool)(l:List β)(d:β)(r:Nat→Option α)(e:Option α):
  scan (fun i=>if p (l.getD i d)=true then some (r i) else none) l.length 0 e=match l.findIdx? p with | some i=>r i | none=>e:=by
 have:∀ (rest pre:List β),pre++rest=l→scan (fun i=>if p (l.getD i d)=true then some (r i) else none) rest.length pre.length e=match rest.findIdx? p with | some i=>r (pre.length+i) | none=>e:=by
  intro rest
  induction rest with
  | nil=>intro pre _;rfl
  | cons x rest ih=>
   intro pre hl
   have hx:l.getD pre.length d=x:=by rw [← hl];simp [List.getD_eq_getElem?_getD]
   rw [List.length_cons,scan]
   simp only [hx,List.findIdx?_cons]
   by_cases hp:p x=true
   ·rw [if_pos hp,if_pos hp];simp
   ·rw [if_neg hp,if_neg hp]
    have:=ih (pre++[x]) (by rw [← hl];simp)
    rw [List.length_append,List.length_singleton] at this
    rw [this]
    cases rest.findIdx? p with
    | none=>rfl
    | some i=>simp [Nat.add_assoc,Nat.add_comm 1 i]
 have h:=this l [] rfl
 simpa using h
theorem foldl_take{α β:Type}(f:β→α→β)(a:β)(l:List α)(d:α)(i:Nat)(h:i < l.length):(l.take (i+1)).foldl f a=f ((l.take i).foldl f a) (l.getD i d):=by
 rw [List.take_add_one,List.foldl_append,List.getElem?_eq_getElem h,List.getD_eq_getElem?_getD,List.getElem?_eq_getElem h]
 rfl
namespace Reg
def around(n m:Int):Int:=Int.tmod (if n < 0 then -(n+1) else n) m
theorem around_lt{n m:Int}(hm:0 < m):0≤around n m∧around n m < m:=by
 unfold around
 have h:0≤(if n < 0 then -(n+1) else n):=by split <;> omega
 rw [tmod_nn h]
 exact⟨Int.emod_nonneg _ (by omega),Int.emod_lt_of_pos _ hm⟩
def at_(l:List Int)(i m:Int):Int:=if i < 0∨i≥(l.length:Int) then 0 else around (l.getD i.toNat 0) m
theorem at_lt{l:List Int}{i m:Int}(hm:0 < m):0≤at_ l i m∧at_ l i m < m:=by
 unfold at_;split
 ·omega
 ·exact around_lt hm
def cls(l:List Int)(m:Int)(n i:Nat)(q:Int):List Int:=((List.range i).map fun (t:Nat)=>(n:Int)-1-(t:Int)).filter fun d=>decide (at_ l d m=q)
theorem cls_succ(l:List Int)(m:Int)(n i:Nat)(q:Int):cls l m n (i+1) q=cls l m n i q++(if at_ l ((n:Int)-1-(i:Int)) m=q then [(n:Int)-1-(i:Int)] else []):=by
 unfold cls
 rw [List.range_succ,List.map_append,List.filter_append]
 congr 1
 by_cases h:at_ l ((n:Int)-1-(i:Int)) m=q <;> simp [h]
theorem cls_len(l:List Int)(m:Int)(n i:Nat)(q:Int):(cls l m n i q).length≤i:=by
 unfold cls
 refine Nat.le_trans (List.length_filter_le _ _) (by simp)
def groups(l:List Int)(n many:Nat):List (List Int):=((List.range many).map fun (q:Nat)=>cls l ((many:Int)+1) n n (q:Int)).filter fun g=>decide (0 < g.length)
def owners(l:List Int)(n:Nat)(h:Int):List Int:=(List.range n).map fun (d:Nat)=>at_ l (d:Int) (h+1)-1
def kk:Nat→Int→Int
 | 0,k=>k
 | t+1,k=>Int.tdiv (kk t k) 2
theorem kk_nn{k:Int}(h:0≤k∧k < 64):∀ t,0≤kk t k∧kk t k < 64
 | 0=>h
 | t+1=>by
  have:=kk_nn h t
  simp only [kk]
  rw [tdiv_nn this.1]
  omega
def ups(n:Int)(h:Nat):List Bool:=(List.range h).map fun (t:Nat)=>Int.tmod (kk t (around n 64)) 2==0
theorem take_get{β:Type}(l:List β)(d:β)(i:Nat)(h:i < l.length):l.take i++[l.getD i d]=l.take (i+1):=by
 rw [List.take_add_one,List.getD_eq_getElem?_getD,List.getElem?_eq_getElem h];rfl
def idx{β:Type}(p:β→Bool)(l:List β):Int:=match l.findIdx? p with
 | some i=>(i:Int)
 | none=>-1
theorem idx_neg{β:Type}(p:β→Bool)(l:List β):decide (idx p l≥0)=l.any p:=by
 unfold idx
 cases h:l.findIdx? p with
 | none=>
  rw [List.findIdx?_eq_none_iff] at h
  have:l.any p=false:=by rw [List.any_eq_false];intro x hx;simpa using h x hx
  rw [this];rfl
 | some i=>
  have:l.any p=true:=by
   rw [List.findIdx?_eq_some_iff_getElem] at h
   obtain⟨hi,hp,_⟩:=h
   exact List.any_eq_true.mpr ⟨_,List.getElem_mem hi,hp⟩
  rw [this];exact decide_eq_true (Int.natCast_nonneg i)
theorem idx_lt{β:Type}(p:β→Bool)(l:List β): -1≤idx p l∧idx p l < (l.length:Int):=by
 unfold idx
 cases h:l.findIdx? p with
 | none=>simp only [];omega
 | some i=>
  rw [List.findIdx?_eq_some_iff_getElem] at h
  obtain⟨hi,_,_⟩:=h
  simp only [];omega
def first(up:List Bool):Int:=idx (fun x=>x==true) up
def okO(m:Nat)(o:Int):Bool:=decide (-1≤o)&&decide (o < (m:Int))
def bad(n:Nat)(met:List Bool)(d:Int):Prop:=d < 0∨d≥(n:Int)∨met.getD d.toNat false=true
instance (n:Nat) (met:List Bool) (d:Int):Decidable (bad n met d):=inferInstanceAs (Decidable (_∨_∨_))
def vg(n:Nat):List Int→List Bool→Option (List Bool)
 | [],met=>some met
 | d :: g,met=>if bad n met d then none else vg n g (met.set d.toNat true)
def vgs(n:Nat):List (List Int)→List Bool→Option (List Bool)
 | [],met=>some met
 | g :: gs,met=>if g.length=0 then none else match vg n g met with
  | some met=>vgs n gs met
  | none=>none
def valid(g:List (List Int))(n:Nat)(o:List Int)(u:List Bool):Bool:=
 (decide (1≤u.length)&&decide (u.length≤6))&&((vgs n g (List.replicate n false)).isSome&&o.all (okO u.length))
def has(g o:List Int)(h:Int):Int:=((g.filter fun d=>decide (o.getD d.toNat 0=h)).length:Int)
def inr(n:Nat)(g:List Int):Bool:=g.all fun d=>decide (0≤d)&&decide (d < (n:Int))
def lt6(o:List Int):Bool:=o.all fun x=>decide (x < 6)
def best(g o:List Int)(u:List Bool):Int:=(List.range u.length).foldl (fun (out:Int) (h:Nat)=>if u.getD h false=true∧has g o (h:Int) > has g o out then (h:Int) else out) (first u)
def put(h:Int)(g:List Int)(out:List Int):List Int:=g.foldl (fun out d=>out.set d.toNat h) out
def own(g:List (List Int))(old:List Int)(u:List Bool):List Int×Int:=
 if valid g old.length old u=false then ([],1) else if 0 < g.length∧first u < 0 then ([],6) else (g.foldl (fun out x=>put (best x old u) x out) old,0)
theorem put_len(h:Int):∀ (g out:List Int),(put h g out).length=out.length
 | [],out=>rfl
 | d :: g,out=>by
  have:=put_len h g (out.set d.toNat h)
  simp only [put,List.foldl_cons] at this ⊢
  rw [this,List.length_set]
theorem inr_iff{n:Nat}{g:List Int}:inr n g=true ↔ ∀ d∈g,0≤d∧d < (n:Int):=by
 simp [inr,List.all_eq_true]
theorem inr_getD{n:Nat}{g:List Int}(h:inr n g=true){i:Nat}(hi:i < g.length):0≤g.getD i 0∧g.getD i 0 < (n:Int):=by
 rw [List.getD_eq_getElem?_getD,List.getElem?_eq_getElem hi]
 exact inr_iff.mp h _ (List.getElem_mem hi)
theorem vg_inr{n:Nat}:∀ {g:List Int} {met met':List Bool},vg n g met=some met'→inr n g=true
 | [],_,_,_=>rfl
 | d :: g,met,met',h=>by
  simp only [vg] at h
  split at h
  ·contradiction
  ·rename_i hd
   have:=vg_inr h
   rw [inr_iff] at this ⊢
   intro x hx
   rcases List.mem_cons.1 hx with rfl | hx
   ·unfold bad at hd;omega
   ·exact this x hx
theorem vgs_inr{n:Nat}:∀ {gs:List (List Int)} {met met':List Bool},vgs n gs met=some met' → ∀ g∈gs,inr n g=true∧0 < g.length
 | [],_,_,_,g,hg=>by simp at hg
 | g :: gs,met,met',h,x,hx=>by
  simp only [vgs] at h
  split at h
  ·contradiction
  ·rename_i hg
   split at h <;> try contradiction
   rename_i m hm
   rcases List.mem_cons.1 hx with rfl | hx
   ·exact⟨vg_inr hm,by omega⟩
   ·exact vgs_inr h x hx
def mark(g:List Int)(met:List Bool):List Bool:=g.foldl (fun m d=>m.set d.toNat true) met
def marks(gs:List (List Int))(met:List Bool):List Bool:=gs.foldl (fun m g=>mark g m) met
theorem mark_len:∀ (g:List Int) (met:List Bool),(mark g met).length=met.length
 | [],met=>rfl
 | d :: g,met=>by
  have:=mark_len g (met.set d.toNat true)
  simp only [mark,List.foldl_cons] at this ⊢
  rw [this,List.length_set]
theorem marks_len:∀ (gs:List (List Int)) (met:List Bool),(marks gs met).length=met.length
 | [],met=>rfl
 | g :: gs,met=>by
  have:=marks_len gs (mark g met)
  simp only [marks,List.foldl_cons] at this ⊢
  rw [this,mark_len]
theorem vg_mark{n:Nat}:∀ {g:List Int} {met m:List Bool},vg n g met=some m→m=mark g met
 | [],met,m,h=>by simp only [vg,Option.some.injEq] at h;exact h.symm
 | d :: g,met,m,h=>by
  simp only [vg] at h
  split at h
  ·contradiction
  ·exact(vg_mark (g:=g) h)
theorem scan_vg{α:Type}(n:Nat)(x:List Int)(met:List Bool)(r e:Option α):
  scan (fun i=>if bad n (mark (x.take i) met) (x.getD i 0) then some r else none) x.length 0 e=match vg n x met with | some _=>e | none=>r:=by
 have:∀ (rest pre:List Int),pre++rest=x→scan (fun i=>if bad n (mark (x.take i) met) (x.getD i 0) then some r else none) rest.length pre.length e=match vg n rest (mark pre met) with | some _=>e | none=>r:=by
  intro rest
  induction rest with
  | nil=>intro pre _;rfl
  | cons d rest ih=>
   intro pre hl
   have hx:x.getD pre.length 0=d:=by rw [← hl];simp [List.getD_eq_getElem?_getD]
   have ht:x.take pre.length=pre:=by rw [← hl];simp
   rw [List.length_cons,scan,vg]
   simp only [hx,ht]
   by_cases hb:bad n (mark pre met) d
   ·simp [hb]
   ·have:=ih (pre++[d]) (by rw [← hl];simp)
    rw [List.length_append,List.length_singleton] at this
    simp only [hb,if_false]
    rw [this]
    simp [mark,List.foldl_append]
 exact this x [] rfl
theorem scan_vgs{α:Type}(n:Nat)(gs:List (List Int))(met:List Bool)(r e:Option α):
  scan (fun i=>if (gs.getD i []).length=0∨vg n (gs.getD i []) (marks (gs.take i) met)=none then some r else none) gs.length 0 e=match vgs n gs met with | some _=>e | none=>r:=by
 have:∀ (rest pre:List (List Int)),pre++rest=gs→scan (fun i=>if (gs.getD i []).length=0∨vg n (gs.getD i []) (marks (gs.take i) met)=none then some r else none) rest.length pre.length e =
   match vgs n rest (marks pre met) with | some _=>e | none=>r:=by
  intro rest
  induction rest with
  | nil=>intro pre _;rfl
  | cons d rest ih=>
   intro pre hl
   have hx:gs.getD pre.length []=d:=by rw [← hl];simp [List.getD_eq_getElem?_getD]
   have ht:gs.take pre.length=pre:=by rw [← hl];simp
   rw [List.length_cons,scan,vgs]
   simp only [hx,ht]
   by_cases h0:d.length=0
   ·simp [h0]
   ·cases hv:vg n d (marks pre met) with
    | none=>simp [h0]
    | some m=>
     have:=ih (pre++[d]) (by rw [← hl];simp)
     rw [List.length_append,List.length_singleton] at this
     simp only [h0,if_false]
     rw [if_neg (by simp)]
     simp only []
     rw [this,vg_mark hv]
     simp [marks,List.foldl_append]
 exact this gs [] rfl
theorem valid_eq(g:List (List Int))(n:Nat)(o:List Int)(u:List Bool):
  valid g n o u=if (u.length:Int) < 1 then false else if (u.length:Int) > 6 then false else match vgs n g (List.replicate n false) with | some _=>o.all (okO u.length) | none=>false:=by
 unfold valid
 by_cases h1:(u.length:Int) < 1
 ·rw [if_pos h1,decide_eq_false (by omega)];rfl
 rw [if_neg h1,decide_eq_true (by omega)]
 by_cases h2:(u.length:Int) > 6
 ·rw [if_pos h2,decide_eq_false (by omega)];rfl
 rw [if_neg h2,decide_eq_true (by omega)]
 cases vgs n g (List.replicate n false) <;> simp
theorem valid_iff{g:List (List Int)}{n:Nat}{o:List Int}{u:List Bool}(h:valid g n o u=true):
  (1≤u.length∧u.length≤6)∧(∀ x∈g,inr n x=true∧0 < x.length)∧(∀ x∈o,-1≤x∧x < (u.length:Int)):=by
 simp only [valid,Bool.and_eq_true,decide_eq_true_eq,Option.isSome_iff_exists,List.all_eq_true,okO] at h
 obtain⟨h1,⟨m,h2⟩,h3⟩:=h
 exact⟨h1,vgs_inr h2,h3⟩
theorem valid_lt6{g:List (List Int)}{n:Nat}{o:List Int}{u:List Bool}(h:valid g n o u=true):lt6 o=true:=by
 obtain⟨h1,_,h3⟩:=valid_iff h
 simp only [lt6,List.all_eq_true,decide_eq_true_eq]
 intro x hx
 have:=h3 x hx
 omega
theorem has_take{g o:List Int}{i:Nat}(h:Int)(hi:i < g.length):has (g.take (i+1)) o h=has (g.take i) o h+(if o.getD (Int.toNat (g.getD i 0)) 0=h then 1 else 0):=by
 rw [← take_get g 0 i hi]
 unfold has
 rw [List.filter_append,List.length_append]
 by_cases e:o.getD (Int.toNat (g.getD i 0)) 0=h
 ·rw [if_pos e,List.filter_cons,if_pos (decide_eq_true e)];simp
 ·rw [if_neg e,List.filter_cons,if_neg (by simpa using e)];simp
theorem has_le(g o:List Int)(h:Int):0≤has g o h∧has g o h≤(g.length:Int):=
 ⟨Int.natCast_nonneg _,Int.ofNat_le.mpr (List.length_filter_le _ _)⟩
def cnts(g o:List Int):List Int:=(List.range 6).map fun (h:Nat)=>has g o (h:Int)
theorem cnts_getD(g o:List Int){h:Int}(h0:0≤h)(h6:h < 6):(cnts g o).getD h.toNat 0=has g o h:=by
 obtain⟨n,rfl⟩:∃ n:Nat,h=(n:Int):=⟨h.toNat,by omega⟩
 rw [Int.toNat_natCast]
 unfold cnts
 rw [List.getD_eq_getElem?_getD,List.getElem?_map,List.getElem?_range (by omega)]
 rfl
theorem cnts_set{g o:List Int}{i:Nat}(hi:i < g.length)(h0:0≤o.getD (Int.toNat (g.getD i 0)) 0)(h6:o.getD (Int.toNat (g.getD i 0)) 0 < 6):
  (cnts (g.take i) o).set (Int.toNat (o.getD (Int.toNat (g.getD i 0)) 0)) (has (g.take i) o (o.getD (Int.toNat (g.getD i 0)) 0)+1)=cnts (g.take (i+1)) o:=by
 refine List.ext_getElem (by simp [cnts]) fun j h1 h2=>?_
 rw [List.getElem_set]
 simp only [cnts,List.getElem_map,List.getElem_range,has_take _ hi]
 split
 ·rename_i e
  have:o.getD (Int.toNat (g.getD i 0)) 0=(j:Int):=by omega
  rw [this,if_pos rfl]
 ·rename_i e
  rw [if_neg (by omega),Int.add_zero]
theorem cnts_skip{g o:List Int}{i:Nat}(hi:i < g.length)(h0:o.getD (Int.toNat (g.getD i 0)) 0 < 0):cnts (g.take i) o=cnts (g.take (i+1)) o:=by
 unfold cnts
 refine List.map_congr_left fun j _=>?_
 rw [has_take _ hi,if_neg (by omega),Int.add_zero]
def bestTo(g o:List Int)(u:List Bool)(i:Nat):Int:=(List.range i).foldl (fun (out:Int) (h:Nat)=>if u.getD h false=true∧has g o (h:Int) > has g o out then (h:Int) else out) (first u)
theorem bestTo_succ(g o:List Int)(u:List Bool)(i:Nat):bestTo g o u (i+1)=if u.getD i false=true∧has g o (i:Int) > has g o (bestTo g o u i) then (i:Int) else bestTo g o u i:=by
 unfold bestTo;rw [List.range_succ,List.foldl_append];rfl
theorem first_up{u:List Bool}{i:Nat}(h:u.getD i false=true):0≤first u:=by
 have hi:i < u.length:=by
  rcases Nat.lt_or_ge i u.length with h' | h'
  ·exact h'
  ·rw [List.getD_eq_getElem?_getD,List.getElem?_eq_none h'] at h;cases h
 have:=idx_neg (fun x=>x==true) u
 have ha:u.any (fun x=>x==true)=true:=List.any_eq_true.mpr ⟨u[i],List.getElem_mem hi,by rw [List.getD_eq_getElem?_getD,List.getElem?_eq_getElem hi] at h;simpa using h⟩
 rw [ha,decide_eq_true_eq] at this
 exact this
theorem bestTo_range{g o:List Int}{u:List Bool}(h:0≤first u):∀ i,i≤u.length→0≤bestTo g o u i∧bestTo g o u i < (u.length:Int)
 | 0,_=>⟨h,(idx_lt _ u).2⟩
 | i+1,hi=>by
  have:=bestTo_range (g:=g) (o:=o) h i (by omega)
  rw [bestTo_succ]
  split
  ·omega
  ·exact this
def ownTo(g:List (List Int))(old:List Int)(u:List Bool)(i:Nat):List Int:=(g.take i).foldl (fun out x=>put (best x old u) x out) old
theorem ownTo_succ{g:List (List Int)}{old:List Int}{u:List Bool}{i:Nat}(hi:i < g.length):ownTo g old u (i+1)=put (best (g.getD i []) old u) (g.getD i []) (ownTo g old u i):=by
 unfold ownTo;rw [foldl_take _ _ g [] i hi]
theorem ownTo_len(g:List (List Int))(old:List Int)(u:List Bool)(i:Nat):(ownTo g old u i).length=old.length:=by
 unfold ownTo
 generalize g.take i=l
 have:∀ (l:List (List Int)) (out:List Int),(l.foldl (fun out x=>put (best x old u) x out) out).length=out.length:=by
  intro l
  induction l with
  | nil=>intro out;rfl
  | cons x l ih=>intro out;rw [List.foldl_cons,ih,put_len]
 exact this l old
theorem put_succ{h:Int}{x out:List Int}{j:Nat}(hj:j < x.length):put h (x.take (j+1)) out=(put h (x.take j) out).set (Int.toNat (x.getD j 0)) h:=by
 unfold put;rw [foldl_take _ _ x 0 j hj]
theorem cond_two{α:Type}{p q:Prop}[Decidable p][Decidable q]{X Y:α}(h:¬ (p∧q)):cond (decide p) (cond (decide q) X Y) Y=Y:=by
 by_cases h1:p
 ·by_cases h2:q
  ·exact absurd ⟨h1,h2⟩ h
  ·rw [cond_pos h1,cond_neg h2]
 ·rw [cond_neg h1]
theorem getD_ok{l:List (List Int)}(h:∀ x∈l,x.length < 4611686018427387904)(i:Nat):(l.getD i []).length < 4611686018427387904:=by
 rw [List.getD_eq_getElem?_getD]
 cases h':l[i]? with
 | none=>simp
 | some x=>exact h x (List.mem_of_getElem? h')
theorem getD_flat(l:List (List Int))(i:Nat):(l.getD i []).length≤l.flatten.length:=by
 rw [List.getD_eq_getElem?_getD]
 cases h:l[i]? with
 | none=>simp
 | some x=>exact(List.sublist_flatten_of_mem (List.mem_of_getElem? h)).length_le
theorem getD_mem{l:List (List Int)}{i:Nat}(h:i < l.length):l.getD i []∈l:=by
 rw [List.getD_eq_getElem?_getD,List.getElem?_eq_getElem h]
 exact List.getElem_mem h
theorem own_eq{g:List (List Int)}{old:List Int}{u:List Bool}(h1:valid g old.length old u=true)(h2:¬ (0 < g.length∧first u < 0)):own g old u=(ownTo g old u g.length,0):=by
 unfold own;rw [if_neg (by simp [h1]),if_neg h2,ownTo,List.take_length]
def mapTo{α:Type}(g:α→α)(l:List α)(i:Nat):List α:=(l.take i).map g++l.drop i
theorem mapTo_full{α:Type}(g:α→α)(l:List α):mapTo g l l.length=l.map g:=by simp [mapTo]
theorem mapTo_len{α:Type}(g:α→α)(l:List α)(i:Nat):(mapTo g l i).length=l.length:=by
 simp only [mapTo,List.length_append,List.length_map,List.length_take,List.length_drop];omega
theorem mapTo_get{α:Type}(g:α→α)(l:List α)(z:α)(i:Nat)(h:i < l.length):(mapTo g l i).getD i z=l.getD i z:=by
 simp only [mapTo,List.getD_eq_getElem?_getD]
 rw [List.getElem?_append_right (by rw [List.length_map,List.length_take];omega)]
 simp [List.length_take,Nat.min_eq_left (Nat.le_of_lt h)]
theorem mapTo_succ{α:Type}(g:α→α)(l:List α)(z:α)(i:Nat)(h:i < l.length):(mapTo g l i).set i (g (l.getD i z))=mapTo g l (i+1):=by
 apply List.ext_getElem?
 intro j
 have e:l.getD i z=l[i]:=by rw [List.getD_eq_getElem?_getD,List.getElem?_eq_getElem h];rfl
 rw [List.getElem?_set,mapTo_len,e]
 simp only [mapTo]
 rcases Nat.lt_trichotomy i j with hj | rfl | hj
 ·rw [if_neg (by omega),List.getElem?_append_right (by rw [List.length_map,List.length_take];omega),List.getElem?_append_right (by rw [List.length_map,List.length_take];omega)]
  simp only [List.length_map,List.length_take,List.getElem?_drop]
  congr 1;omega
 ·rw [if_pos rfl,if_pos h,List.getElem?_append_left (by rw [List.length_map,List.length_take];omega)]
  simp [h]
 ·rw [if_neg (by omega),List.getElem?_append_left (by rw [List.length_map,List.length_take];omega),List.getElem?_append_left (by rw [List.length_map,List.length_take];omega)]
  simp [List.getElem?_take,hj,Nat.lt_succ_of_lt hj]
theorem mapTo_same{α:Type}(g:α→α)(l:List α)(z:α)(i:Nat)(h:i < l.length)(he:g (l.getD i z)=l.getD i z):mapTo g l (i+1)=mapTo g l i:=by
 rw [← mapTo_succ g l z i h,he,← mapTo_get g l z i h,List.getD_eq_getElem?_getD,List.getElem?_eq_getElem (by rw [mapTo_len];exact h)]
 simp
def tk(o:List Int)(h:Int)(left:List Bool)(out x:List Int):List Int:=if x.any (fun d=>o.getD d.toNat 0==h) then put (best x o left) x out else out
def tkTo(o:List Int)(g:List (List Int))(h:Int)(left:List Bool)(out:List Int)(i:Nat):List Int:=(g.take i).foldl (tk o h left) out
def swp(h f x:Int):Int:=if x=h then f else x
def take(o:List Int)(g:List (List Int))(h:Int)(u:List Bool):List Int×Int:=
 if valid g o.length o u=false∨h < 0∨(u.length:Int)≤h then ([],1) else
 if o.any (fun y=>y==h)=true∧first (u.set h.toNat false) < 0 then ([],6) else
 ((tkTo o g h (u.set h.toNat false) o g.length).map (swp h (first (u.set h.toNat false))),0)
theorem tkTo_succ{o:List Int}{g:List (List Int)}{h:Int}{left:List Bool}{out:List Int}{i:Nat}(hi:i < g.length):tkTo o g h left out (i+1)=tk o h left (tkTo o g h left out i) (g.getD i []):=by
 unfold tkTo;rw [foldl_take _ _ g [] i hi]
theorem tk_len(o:List Int)(h:Int)(left:List Bool)(out x:List Int):(tk o h left out x).length=out.length:=by
 unfold tk;split
 ·rw [put_len]
 ·rfl
theorem tkTo_len(o:List Int)(g:List (List Int))(h:Int)(left:List Bool)(out:List Int)(i:Nat):(tkTo o g h left out i).length=out.length:=by
 unfold tkTo
 generalize g.take i=l
 induction l generalizing out with
 | nil=>rfl
 | cons x l ih=>rw [List.foldl_cons,ih,tk_len]
theorem first_true{u:List Bool}(h:0≤first u):u.getD (first u).toNat false=true:=by
 unfold first idx at *
 cases h':u.findIdx? (fun x=>x==true) with
 | none=>rw [h'] at h;simp at h
 | some i=>
  rw [List.findIdx?_eq_some_iff_getElem] at h'
  obtain⟨hi,hp,_⟩:=h'
  simp only [Int.toNat_natCast]
  rw [List.getD_eq_getElem?_getD,List.getElem?_eq_getElem hi]
  simpa using hp
theorem bestTo_up(g o:List Int)(u:List Bool):∀ i,bestTo g o u i=first u∨(0≤bestTo g o u i∧u.getD (bestTo g o u i).toNat false=true)
 | 0=>.inl rfl
 | i+1=>by
  rw [bestTo_succ]
  split
  ·rename_i h;right;exact⟨by omega,by simpa using h.1⟩
  ·exact bestTo_up g o u i
theorem best_up(g o:List Int)(u:List Bool):(best g o u = -1∧first u = -1)∨(0≤best g o u∧u.getD (best g o u).toNat false=true):=by
 rcases bestTo_up g o u u.length with h | h
 ·have h':best g o u=first u:=h
  have:=(idx_lt (fun x=>x==true) u).1
  rw [h']
  by_cases h1:0≤first u
  ·exact .inr ⟨h1,first_true h1⟩
  ·unfold first at *;left;omega
 ·exact .inr h
theorem has_zero(g o:List Int)(h:Int):(has g o h==0) = !(g.any (fun d=>o.getD d.toNat 0==h)):=by
 unfold has
 induction g with
 | nil=>rfl
 | cons d g ih=>
  rw [List.filter_cons,List.any_cons]
  by_cases hd:o.getD d.toNat 0=h
  ·rw [decide_eq_true hd,if_pos rfl,beq_iff_eq.mpr hd,List.length_cons]
   simp only [Bool.true_or,Bool.not_true]
   rw [int_beq,decide_eq_false (by omega)]
  ·rw [decide_eq_false hd,if_neg (by simp),ih,show(o.getD d.toNat 0==h)=false by simpa using hd,Bool.false_or]
def insL(x:List Int):List (List Int)→List (List Int)
 | []=>[x]
 | y :: l=>if y.length≤x.length then x :: y :: l else y :: insL x l
def insR(x:List Int):List (List Int)→List (List Int)
 | []=>[x]
 | y :: l=>if x.length≤y.length then y :: insR x l else x :: y :: l
def sortD:List (List Int)→List (List Int)
 | []=>[]
 | x :: l=>insL x (sortD l)
theorem ins_comm(x y:List Int):∀ l,insR y (insL x l)=insL x (insR y l)
 | []=>by simp only [insL,insR]
 | z :: l=>by
  have ih:=ins_comm x y l
  simp only [insL,insR]
  by_cases h1:z.length≤x.length <;> by_cases h2:y.length≤z.length
  ·rw [if_pos h1,if_pos h2]
   simp only [insL,insR]
   rw [if_pos h1,if_pos h2,if_pos (by omega)]
  ·rw [if_pos h1,if_neg h2]
   simp only [insL,insR]
   by_cases h3:y.length≤x.length
   ·rw [if_pos h3,if_neg h2,if_pos h3]
   ·rw [if_neg h3,if_neg h3,if_pos h1]
  ·rw [if_neg h1,if_pos h2]
   simp only [insL,insR]
   rw [if_neg h1,if_pos h2,ih]
  ·rw [if_neg h1,if_neg h2]
   simp only [insL,insR]
   rw [if_neg h2,if_neg (by omega),if_neg h1]
theorem sortD_concat(y:List Int):∀ l,sortD (l++[y])=insR y (sortD l)
 | []=>rfl
 | x :: l=>by rw [List.cons_append,sortD,sortD,sortD_concat y l,ins_comm]
theorem insL_len(x:List Int):∀ l,(insL x l).length=l.length+1
 | []=>rfl
 | y :: l=>by
  simp only [insL];split
  ·rfl
  ·rw [List.length_cons,insL_len x l,List.length_cons]
theorem sortD_len:∀ l,(sortD l).length=l.length
 | []=>rfl
 | x :: l=>by rw [sortD,insL_len,sortD_len l,List.length_cons]
theorem insL_mem(x z:List Int):∀ l,z∈insL x l↔z=x∨z∈l
 | []=>by simp [insL]
 | y :: l=>by
  simp only [insL];split
  ·rw [List.mem_cons]
  ·rw [List.mem_cons,insL_mem x z l,List.mem_cons]
   constructor
   ·rintro(h | h | h) <;> simp [h]
   ·rintro(h | h | h) <;> simp [h]
theorem sortD_mem(z:List Int):∀ l,z∈sortD l↔z∈l
 | []=>Iff.rfl
 | x :: l=>by rw [sortD,insL_mem,sortD_mem z l,List.mem_cons]
theorem insL_sorted(x:List Int):∀ l,l.Pairwise (fun a b=>b.length≤a.length)→(insL x l).Pairwise (fun a b=>b.length≤a.length)
 | [],_=>by simp [insL]
 | y :: l,h=>by
  simp only [insL]
  obtain⟨h1,h2⟩:=List.pairwise_cons.1 h
  split
  ·rename_i hx
   refine List.pairwise_cons.2 ⟨fun z hz=>?_,h⟩
   rcases List.mem_cons.1 hz with rfl | hz
   ·exact hx
   ·exact Nat.le_trans (h1 z hz) hx
  ·rename_i hx
   refine List.pairwise_cons.2 ⟨fun z hz=>?_,insL_sorted x l h2⟩
   rcases(insL_mem x z l).1 hz with rfl | hz
   ·omega
   ·exact h1 z hz
theorem sortD_sorted:∀ l,(sortD l).Pairwise (fun a b=>b.length≤a.length)
 | []=>List.Pairwise.nil
 | x :: l=>insL_sorted x _ (sortD_sorted l)
def posR(x:List Int)(l:List (List Int)):Nat:=(l.takeWhile (fun a=>decide (x.length≤a.length))).length
theorem posR_le(x:List Int)(l:List (List Int)):posR x l≤l.length:=List.Sublist.length_le (List.takeWhile_sublist _)
theorem insR_pos(x:List Int):∀ l,insR x l=l.take (posR x l)++x :: l.drop (posR x l)
 | []=>rfl
 | y :: l=>by
  have ih:=insR_pos x l
  simp only [insR,posR,List.takeWhile_cons]
  by_cases h:x.length≤y.length
  ·rw [if_pos h,decide_eq_true h,if_pos rfl,List.length_cons,List.take_succ_cons,List.drop_succ_cons,List.cons_append,ih];rfl
  ·rw [if_neg h,decide_eq_false h,if_neg (by simp)];rfl
theorem posR_ge(x:List Int):∀ (l:List (List Int)) (k:Nat),k < posR x l→x.length≤(l.getD k []).length
 | [],k,h=>by simp [posR] at h
 | y :: l,k,h=>by
  simp only [posR,List.takeWhile_cons] at h
  by_cases hy:x.length≤y.length
  ·rw [decide_eq_true hy,if_pos rfl,List.length_cons] at h
   cases k with
   | zero=>exact hy
   | succ k=>exact posR_ge x l k (by unfold posR;omega)
  ·rw [decide_eq_false hy,if_neg (by simp)] at h;simp at h
theorem posR_lt(x:List Int):∀ (l:List (List Int)) (k:Nat),l.Pairwise (fun a b=>b.length≤a.length)→posR x l≤k→k < l.length→(l.getD k []).length < x.length
 | [],k,_,_,h=>by simp at h
 | y :: l,k,hs,h,hk=>by
  obtain⟨h1,h2⟩:=List.pairwise_cons.1 hs
  simp only [posR,List.takeWhile_cons] at h
  by_cases hy:x.length≤y.length
  ·rw [decide_eq_true hy,if_pos rfl,List.length_cons] at h
   cases k with
   | zero=>omega
   | succ k=>exact posR_lt x l k h2 (by unfold posR;omega) (by simpa using hk)
  ·cases k with
   | zero=>show y.length < x.length;omega
   | succ k=>
    have hk':k < l.length:=by simpa using hk
    have:=h1 (l.getD k []) (by rw [List.getD_eq_getElem?_getD,List.getElem?_eq_getElem hk'];exact List.getElem_mem hk')
    show(l.getD k []).length < x.length
    omega
def slide(x:List Int)(A R:List (List Int))(j:Nat):List (List Int):=A.take j++x :: (A.drop j++R)
theorem slide_len(x:List Int)(A R:List (List Int))(j:Nat):(slide x A R j).length=A.length+1+R.length:=by
 simp only [slide,List.length_append,List.length_cons,List.length_take,List.length_drop];omega
theorem slide_at(x:List Int)(A R:List (List Int))(j:Nat)(h:j≤A.length):(slide x A R j).getD j []=x:=by
 simp only [slide,List.getD_eq_getElem?_getD]
 rw [List.getElem?_append_right (by rw [List.length_take];omega),List.length_take,Nat.min_eq_left h,Nat.sub_self];rfl
theorem slide_lt(x:List Int)(A R:List (List Int))(j k:Nat)(h:k < j)(hj:j≤A.length):(slide x A R j).getD k []=A.getD k []:=by
 simp only [slide,List.getD_eq_getElem?_getD]
 rw [List.getElem?_append_left (by rw [List.length_take];omega),List.getElem?_take,if_pos h]
theorem slide_swap(x:List Int)(A R:List (List Int))(j:Nat)(hj:j < A.length):((slide x A R (j+1)).set (j+1) (A.getD j [])).set j x=slide x A R j:=by
 have e:A.getD j []=A[j]:=by rw [List.getD_eq_getElem?_getD,List.getElem?_eq_getElem hj];rfl
 have h1:slide x A R (j+1)=A.take j++A[j] :: x :: (A.drop (j+1)++R):=by
  rw [slide,List.take_add_one,List.getElem?_eq_getElem hj];simp only [Option.toList,List.append_assoc,List.cons_append,List.nil_append]
 have h2:slide x A R j=A.take j++x :: A[j] :: (A.drop (j+1)++R):=by
  rw [slide,List.drop_eq_getElem_cons hj];rfl
 have hl:(A.take j).length=j:=by rw [List.length_take];omega
 rw [h1,h2,e,List.set_append_right _ _ (by omega),hl,show j+1-j=1 by omega]
 simp only [List.set_cons_succ,List.set_cons_zero]
 rw [List.set_append_right _ _ (by omega),hl,Nat.sub_self]
 rfl
theorem slide_end(x:List Int)(A R:List (List Int)):slide x A R (posR x A)=insR x A++R:=by
 rw [insR_pos,slide];simp
def pickTo(u:List Bool)(sh:List Int)(i:Nat):Int:=(List.range i).foldl (fun (h:Int) (k:Nat)=>if u.getD k false=true∧sh.getD k 0 < sh.getD h.toNat 0 then (k:Int) else h) (first u)
def pick(u:List Bool)(sh:List Int):Int:=pickTo u sh u.length
theorem pickTo_succ(u:List Bool)(sh:List Int)(i:Nat):pickTo u sh (i+1)=if u.getD i false=true∧sh.getD i 0 < sh.getD (pickTo u sh i).toNat 0 then (i:Int) else pickTo u sh i:=by
 unfold pickTo;rw [List.range_succ,List.foldl_append];rfl
theorem pickTo_range{u:List Bool}{sh:List Int}(h:0≤first u):∀ i,i≤u.length→0≤pickTo u sh i∧pickTo u sh i < (u.length:Int)
 | 0,_=>⟨h,(idx_lt _ u).2⟩
 | i+1,hi=>by
  have:=pickTo_range (sh:=sh) h i (by omega)
  rw [pickTo_succ]
  split
  ·omega
  ·exact this
def evStep(u:List Bool)(s:List Int×List Int)(x:List Int):List Int×List Int:=
 (put (pick u s.2) x s.1,s.2.set (pick u s.2).toNat (s.2.getD (pick u s.2).toNat 0+(x.length:Int)))
def even(g:List (List Int))(n:Int)(u:List Bool):List Int×Int:=
 if n < 0∨64 < n∨valid g n.toNat [] u=false then ([],1) else if 0 < g.length∧first u < 0 then ([],6) else
 (((sortD g).foldl (evStep u) (List.replicate n.toNat (-1),List.replicate 6 0)).1,0)
def evTo(l:List (List Int))(n:Nat)(u:List Bool)(m:Nat)(i:Nat):List Int×List Int:=(l.take i).foldl (evStep u) (List.replicate n (-1),List.replicate m 0)
theorem evTo_succ{l:List (List Int)}{n m:Nat}{u:List Bool}{i:Nat}(hi:i < l.length):evTo l n u m (i+1)=evStep u (evTo l n u m i) (l.getD i []):=by
 unfold evTo;rw [foldl_take _ _ l [] i hi]
theorem evFold_len(u:List Bool):∀ (l:List (List Int)) (s:List Int×List Int),(l.foldl (evStep u) s).1.length=s.1.length∧(l.foldl (evStep u) s).2.length=s.2.length
 | [],_=>⟨rfl,rfl⟩
 | x :: l,s=>by
  have:=evFold_len u l (evStep u s x)
  rw [List.foldl_cons]
  simp only [evStep,put_len,List.length_set] at this ⊢
  exact this
theorem evTo_len(l:List (List Int))(n:Nat)(u:List Bool)(m i:Nat):(evTo l n u m i).1.length=n∧(evTo l n u m i).2.length=m:=by
 have:=evFold_len u (l.take i) (List.replicate n (-1),List.replicate m 0)
 simpa [evTo] using this
theorem evTo_bound{l:List (List Int)}{u:List Bool}{n m:Nat}(hx:∀ x∈l,x.length≤64):∀ i,i≤l.length → ∀ k,0≤(evTo l n u m i).2.getD k 0∧(evTo l n u m i).2.getD k 0≤64*(i:Int)
 | 0,_,k=>by
  simp only [evTo,List.take_zero,List.foldl_nil,List.getD_eq_getElem?_getD]
  rw [List.getElem?_replicate];split <;> simp
 | i+1,hi,k=>by
  have ih:=evTo_bound (u:=u) (n:=n) (m:=m) hx i (by omega)
  rw [evTo_succ (by omega)]
  simp only [evStep]
  generalize evTo l n u m i=s at *
  have hl:=hx _ (getD_mem (show i < l.length by omega))
  generalize l.getD i []=x at *
  have h1:=ih k
  have h2:=ih (pick u s.2).toNat
  rw [List.getD_eq_getElem?_getD,List.getElem?_set]
  split
  ·split
   ·simp only [Option.getD_some];omega
   ·simp only [Option.getD_none];omega
  ·rw [← List.getD_eq_getElem?_getD];omega
def rem:List (List Int)→List Bool→List (List Int)
 | x :: g,d :: D=>if d=true then rem g D else x :: rem g D
 | _,_=>[]
def selTo(g:List (List Int))(D:List Bool)(i:Nat):Int:=(List.range i).foldl (fun (s:Int) (k:Nat)=>if D.getD k false=false∧(s < 0∨(g.getD k []).length > (g.getD s.toNat []).length) then (k:Int) else s) (-1)
def dn(g:List (List Int)):Nat→List Bool
 | 0=>List.replicate g.length false
 | i+1=>(dn g i).set (selTo g (dn g i) g.length).toNat true
theorem vg_count{n:Nat}:∀ {g:List Int} {met m:List Bool},vg n g met=some m→met.length=n→m.count true=met.count true+g.length∧m.length=n
 | [],met,m,h,hn=>by simp only [vg,Option.some.injEq] at h;rw [← h];exact⟨rfl,hn⟩
 | d :: g,met,m,h,hn=>by
  simp only [vg] at h
  split at h
  ·contradiction
  ·rename_i hd
   have:=vg_count h (by rw [List.length_set];exact hn)
   unfold bad at hd
   have hf:met[d.toNat]'(by omega)=false:=by
    have:met.getD d.toNat false≠true:=fun h=>hd (.inr (.inr h))
    rw [List.getD_eq_getElem?_getD,List.getElem?_eq_getElem (by omega)] at this
    simpa using this
   have hc:(met.set d.toNat true).count true=met.count true+1:=by
    rw [List.count_set (by omega),hf]
    simp
   rw [this.1,hc,List.length_cons]
   exact⟨by omega,this.2⟩
theorem vgs_short{n:Nat}:∀ {gs:List (List Int)} {met m:List Bool},vgs n gs met=some m→met.length=n → ∀ x∈gs,x.length≤n
 | [],_,_,_,_,x,hx=>by simp at hx
 | g :: gs,met,m,h,hn,x,hx=>by
  simp only [vgs] at h
  split at h
  ·contradiction
  ·split at h <;> try contradiction
   rename_i m1 hm1
   have h1:=vg_count hm1 hn
   rcases List.mem_cons.1 hx with rfl | hx
   ·have:=List.count_le_length (a:=true) (l:=m1)
    omega
   ·exact vgs_short h h1.2 x hx
theorem valid_short{g:List (List Int)}{n:Nat}{o:List Int}{u:List Bool}(h:valid g n o u=true):∀ x∈g,x.length≤n:=by
 simp only [valid,Bool.and_eq_true,Option.isSome_iff_exists] at h
 obtain⟨_,⟨m,h2⟩,_⟩:=h
 exact vgs_short h2 List.length_replicate
end Reg
end Go.Am
end